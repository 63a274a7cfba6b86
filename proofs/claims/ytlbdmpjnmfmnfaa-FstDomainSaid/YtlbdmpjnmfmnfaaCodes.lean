import Derived.Test.YtlbdmpjnmfmnfaaHl4
import Derived.Test.YtlbdmpjnmfmnfaaProg
import Derived.Test.YtlbdmpjnmfmnfaaCodes1
set_option linter.unusedVariables false
set_option maxRecDepth 100000
namespace Go.Proofs.Ytlbdmpjnmfmnfaa
open Go.HL
def acp:HCode:=oJ 1 (nX (some [0,0,3,7,0,0,48,112,255]) (jl 17 0 18 5 (iy 19 17 18 20 19 (jl 21 1 22 5 (iy 23 21 22 24 23 (gy 25 (wC 20 24)))))) (kR 25 4)) 15 5 16 15 5 16
def c62:HCode:=sN (oI 4) (nT 6 (vJ 7 (jv 6) (kG 8 1 9 8 10 (wC 7 9) []))) (kR 10 4) (tu (fJ 5) 0 (ja 11 5 (kG 12 0 13 12 14 (vK 11 13) []) 14 0 acp) (gX [xR 4 0]))
theorem aeW:bu Try.prog 62=some (c62,[4],26):=by kernel_rfl
def acW:HCode:=gX (bI 1 (Ey [Fb]) 2 (PE [(1,1,pG 0),(2,1,pG 1)]) (nS 3 (PE [(1,1,pG 0),(2,1,pG (-1))]) 4 (.bsl 4 2 (mG 2 3)) 5 (zy (pq 0 1 1 4)) (wK 2 0 5)))
def c63:HCode:=dn (gy 0 BC) acW
theorem ae0:iZ Try.prog 63=some (c63,[.c 0 true 2],6):=by kernel_rfl
def aaE:HCode:=.region (some [0,0,2,0,0,16,56,120,0,256,1016,2047,4095]) (gq 17 3 (gB 18 5 19 18 (gq 20 3 (gB 21 5 22 21 (iy 23 20 22 24 23 (bI 25 (oU 5) 26 (ql 4 25) (bI 27 (Bq 4 32 24 26) 28 (iH 17 19) [ji 28 27])))))))
def c64:HCode:=dn (yC 1 2 (jq 2)) (vX (gB 6 1 7 6 (rW 8 7 9 (.mksl 1 24 [.osl 4 0 []] (.t 8)) (jZ 3 9))) (cu 10 1 11 10 (lM 12 11 13)) 0 (jo 14 13 12 14 0 (jJ 1 (rf 15 (oM 11 13) 16 (oU 15) 5 BU 4 5 16) aaE 29 13 13 29)) (gX (gq 30 3 (jZ 2 30))))
theorem aeG:bu Try.prog 64=some (c64,[2],31):=by kernel_rfl
def XY:HCode:=.region (some [0,1,0,0,0,0,0,96,252,508,1023,2047,4095]) (cu 29 6 30 29 (di 31 0 (di 32 1 (fK 33 2 34 (jF 4) 35 (gZ 10) (bI 36 (.mlook false (.ints 2) (OZ 0) (.t 34) (.t 35)) 37 (PE (zB 0 31 (zB 1 32 (pq 2 33 3 36)))) (nS 38 (ql 4 37) 39 (Bq 4 32 30 38) 40 (lm 6) (ji 40 39)))))))
def c65:HCode:=sN (gy 10 (EP 2 3)) (iU 14 4 15 (gZ 10) (iF 16 (.mlook true (.ints 2) (OZ 0) (.t 14) (.t 15)) 13 16 (bI 17 (oV 13) 18 (qZ 13) (tJ 11 17 12 18)))) (qy 19 12 (gy 20 (kz 19)) (nV 20 (dn (iU 21 4 22 (gZ 10) (iU 23 5 24 (jv 23) [rQ (.mset (.ints 2) (.t 21) (.t 22) (.t 24))])) (jk (iU 25 5 26 (gZ 10) (bI 27 (ql 2 26) 28 (Bq 2 16 25 27) [ji 5 28])))))) XY
theorem aen:bu Try.prog 65=some (c65,[],41):=by kernel_rfl
def c67:HCode:=sN [jq 2] (nT 3 (gy 4 (.isn false (.t 3)))) (uw 4 [jq 2]) (gX (vJ 5 (.bsl 1 0 []) (nT 6 (o8 7 (kN 1 5 6) 2 7))))
theorem aeL:bu Try.prog 67=some (c67,[2],8):=by kernel_rfl
def c68:HCode:=dn [jq 6] (Xl (di 9 0 (o8 10 (.mksl 1 1 [.bool false] (.t 9)) 7 10)) (yV 0 (vG (kG 11 1 12 11 13 (lh 12 0) []) (Nv 13 0) (.block 1 (jT (gq 14 1 (kG 15 1 16 15 17 (oO .sub 16 1) (iy 18 14 17 19 18 (mg 8 19)))) (gq 20 1 (kG 21 1 22 21 23 (oO .sub 22 1) (o8 24 (.slc 1 (.t 20) none (some (.t 23))) 1 24))) (dn (jl 25 7 26 8 (iy 27 25 26 28 27 (gy 29 (kz 28)))) (nV 29 (dn (jl 30 7 31 8 (jQ 32 (iH 30 31) (rQ (Eg true 1 32 Fb)))) (jk (jl 33 1 34 2 (fK 35 8 36 (uB 34 (o7 35)) 37 (kN 8 33 36) (jZ 1 37))))))))))) (gX (gq 38 7 (jZ 6 38))))
theorem aeC:bu Try.prog 68=some (c68,[6],39):=by kernel_rfl
def c70:HCode:=dn [jq 2] (vX [jq 3] (nT 6 (lM 7 6 8)) 0 (jo 9 8 7 9 0 (jJ 1 (kV 10 8 11 6 8 12 11 (tJ 4 10 5 12)) (dn (mg 13 5) (nV 13 (uf 14 3 (fK 15 4 16 (jE 15) 17 (kN 8 14 16) (jZ 3 17))))) 18 8 8 18)) (gX (gq 19 3 (jZ 2 19))))
theorem aet:bu Try.prog 70=some (c70,[2],20):=by kernel_rfl
def c72:HCode:=dn (oI 2) (gX (di 3 0 (oP 4 .geq 3 0 5 4 (lW 6 (jb 0) 2 7 (um 6 64) 2 (jy 8 (kE 5 7) 2 8)))))
theorem aeJ:bu Try.prog 72=some (c72,[2],9):=by kernel_rfl
def c78:HCode:=dn (oI 2) (gX (fK 3 0 4 (jh 72 3) 5 (kz 4) (mg 2 5)))
theorem aes:bu Try.prog 78=some (c78,[2],6):=by kernel_rfl
def c79:HCode:=dn (oI 4) (gX (nT 5 (fK 6 1 7 (iR 105 5 6) 8 (oO .geq 7 0) (mg 4 8))))
theorem abb:bu Try.prog 79=some (c79,[4],9):=by kernel_rfl
def c80:HCode:=sN (fJ 4) (di 5 1 (kG 6 0 7 6 8 (vK 5 7) [])) (uw 8 (jl 9 0 10 1 (iy 11 9 10 12 11 (mg 4 12)))) (gX [Fh 4 (-1)])
theorem aeZ:bu Try.prog 80=some (c80,[4],13):=by kernel_rfl
def adq:HCode:=dn (kG 39 5 40 39 41 (oD 1) (iU 42 41 43 (wC 40 42) (di 44 43 (ku 45 (o9 5) 5 46 (.mkfn 106 (o7 3)) 5 (pW 47 (iR 79 45 46) 5 (lY 48 44 47)))))) (kR 48 2)
def ads:HCode:=vG (gB 9 1 10 9 (oP 11 .lss 10 1 12 11 (kF 13 0 1 3 14 13 3 (pW 15 (lh 14 64) 3 (jA 16 12 15 17 16 (ku 18 (jF 3) 8 19 (um 18 1) 8 (jA 20 17 19 21 20 (ku 22 (jF 3) 12 23 (lh 22 2048) 12 (jA 24 21 23 25 24 (kF 26 2 1 16 27 26 16 (MR 28 (jv 27) 16 29 3 16 (pW 30 (wC 28 29) 16 (lY 31 25 30))))))))))))) (kR 31 2) (tu (cu 32 1 33 32 (lM 34 33 35)) 0 (jo 36 35 34 36 0 (jJ 1 (iy 37 33 35 38 37 (jZ 5 38)) adq 49 35 35 49)) (gX [xR 2 0]))
def c85:HCode:=jT (yC 1 3 (BR 2)) (cu 6 1 7 6 (rW 8 7 3 (.newz [.int .i64 0]) [rJ 1 3 8])) ads
theorem aeQ:bu Try.prog 85=some (c85,[2],50):=by kernel_rfl
def acK:HCode:=G8 3 (cu 52 1 53 52 (kV 54 4 55 53 54 56 55 (kV 57 5 58 56 57 59 58 (oP 60 .lss 59 0 61 60 (kF 62 1 1 9 63 62 9 (lJ 64 4 9 65 (iH 63 64) 9 (ku 66 (jF 65) 9 67 (jb 5) 9 (MR 68 (iH 66 67) 9 69 68 9 (lJ 70 3 9 71 (qw .geq 69 70) 9 (lY 72 61 71)))))))))) (kR 72 2) (wQ 50 5 51 50 5 51)
def ac6:HCode:=oJ 1 (.seq (nX (some [0,1,0,7,15,31,0,64,255]) (cu 37 1 38 37 (kV 39 4 40 38 39 41 40 (rW 42 41 43 (oD 1) (iU 44 43 45 (wC 42 44) [])))) (kR 45 2)) (dn (fJ 5) (yV 2 (ja 46 5 (gB 47 1 48 47 (H9 49 46 48)) 49 2 acK)))) 35 4 36 35 4 36
def aaT:HCode:=vG (gB 9 1 10 9 (oP 11 .lss 10 1 12 11 (kF 13 0 1 3 14 13 3 (pW 15 (lh 14 64) 3 (jA 16 12 15 17 16 (lJ 18 3 8 19 (um 18 1) 8 (jA 20 17 19 21 20 (lJ 22 3 12 23 (lh 22 2048) 12 (jA 24 21 23 25 24 (kF 26 2 1 16 27 26 16 (ku 28 (jv 27) 16 29 (jb 3) 16 (pW 30 (wC 28 29) 16 (lY 31 25 30))))))))))))) (kR 31 2) (tu (fJ 4) 0 (ja 32 4 (di 33 3 (H9 34 32 33)) 34 0 ac6) (gX [xR 2 0]))
def c88:HCode:=jT (yC 1 3 (BR 2)) (cu 6 1 7 6 (jy 8 (jv 7) 3 8)) aaT
theorem aeD:bu Try.prog 88=some (c88,[2],73):=by kernel_rfl
def c90:HCode:=dn [jq 5] (vX [jq 6] (nT 11 (lM 12 11 13)) 0 (jo 14 13 12 14 0 (jJ 1 (iy 15 11 13 16 15 (mg 8 16)) (dn (iF 17 (jF 2) 18 8 (iy 19 17 18 20 19 (lM 21 20 22))) (yV 2 (jo 23 22 21 23 2 (jJ 3 (rf 24 (oM 20 22) 25 (oU 24) 10 BU 4 10 25) (dn (cu 26 10 27 26 (di 28 1 (gy 29 (qw .eql 27 28)))) (nV 29 (uf 30 6 (lT 31 3 10 32 31 (bI 33 (jE 32) 34 (kN 8 30 33) (jZ 6 34)))))) 35 22 22 35)))) 36 13 13 36)) (gX (gq 37 6 (jZ 5 37))))
theorem ae2:bu Try.prog 90=some (c90,[5],38):=by kernel_rfl
def c91:HCode:=dn [jq 4] (gX (gB 5 1 6 5 (vJ 7 (jv 6) (nT 8 (bI 9 (.mkfn 92 (o7 2)) 10 (uo 68 7 (mG 8 9)) (o8 11 (jh 70 10) 4 11))))))
theorem aef:bu Try.prog 91=some (c91,[4],12):=by kernel_rfl
def c92:HCode:=dn [jq 3] (gX (iF 4 (jF 1) 5 0 (bI 6 (jE 5) 7 (uB 4 (A8 6 (-1))) (jZ 3 7))))
theorem aeF:bu Try.prog 92=some (c92,[3],8):=by kernel_rfl
def c93:HCode:=dn (fJ 4) (vX [jq 5] (nT 10 (lM 11 10 12)) 0 (jo 13 12 11 13 0 (jJ 1 (iy 14 10 12 15 14 (mg 7 15)) (jk (jl 16 5 17 7 (iF 18 (.conv .u8 (.t 17)) 19 7 (bI 20 (WQ .shr 19 (.c (.int .u64 8))) 21 (.conv .u8 (.t 20)) (bI 22 (.bsl 1 2 (mG 18 21)) 23 (kN 1 16 22) (jZ 5 23)))))) 24 12 12 24)) (vG (vJ 26 (jF 1) (gq 27 5 (bI 28 (.tostr (.t 27)) 29 (.mlook true .str (OZ 0) (.t 26) (.t 28)) (fK 25 29 30 (oV 25) 31 (qZ 25) (tJ 8 30 9 31))))) (qy 32 9 (gy 33 (kz 32)) (nV 33 (dn (vJ 34 (jF 1) (gq 35 5 (OA 36 (.tostr (.t 35)) 37 1 2 (aaw 38 37 (rQ (.mset .str (.t 34) (.t 36) (.t 38))))))) (jk (vJ 39 (jF 2) (nT 40 (bI 41 (jE 40) 42 (Ih false 1 24 39 41) [ji 2 42]))))))) (gX (vJ 43 (jF 1) (gq 44 5 (bI 45 (.tostr (.t 44)) 46 (.mlook false .str (OZ 0) (.t 43) (.t 45)) (mg 4 46)))))))
theorem ae7:bu Try.prog 93=some (c93,[4],47):=by kernel_rfl
def c94:HCode:=dn (oI 3) (gX (gB 4 1 5 4 (kV 6 0 7 5 6 8 7 (mg 3 8))))
theorem afl:bu Try.prog 94=some (c94,[3],9):=by kernel_rfl
def ac4:HCode:=nX (some [0,1,3,0,8,0,0,127,255,511,511,0,3071,8191]) (iU 32 3 33 (aak 1 32 (pG 0)) (iU 34 33 35 (oD 1) (iU 36 35 37 (.mkfn 109 (vz 3 (mG 1 4))) (bI 38 (.mkfn 110 (mG 1 4)) 39 (uo 108 34 (vz 36 (mG 37 38))) (fK 31 39 40 (oV 31) 41 (qZ 31) (vI 6 DK (nR 6 40) (mg 7 41))))))) (gX (jQ 42 (AA 3 6) (nR 2 42)))
def c95:HCode:=sN (bI 1 (Ba 3) 2 DK []) (bI 8 (AA 3 1) 9 (jh 85 8) (gy 10 (kz 9))) (uw 10 (jQ 11 (Gy []) (nR 2 11))) (dn (nS 12 (AA 3 1) 13 (jh 107 12) 3 (.newz [.nils]) (ji 3 13)) (vX (iU 14 3 15 (jv 14) (bI 16 (Gg 1 8 (.t 15)) 4 (.newz [.nils]) [ji 4 16])) (iU 17 3 18 (jv 17) (oP 19 .sub 18 1 5 19 [])) 0 (ja 20 5 (gy 21 (oO .geq 20 0)) 21 0 (VG 1 (.region (some [0,0,0,6,14,0,63,127]) (OA 24 (jF 4) 25 1 3 (kV 26 5 27 25 26 28 27 (di 29 5 (jQ 30 (iH 24 28) (rJ 1 30 29)))))) (di 22 5 (oP 23 .sub 22 1 5 23 [])))) ac4))
theorem ae5:iZ Try.prog 95=some (c95,[.c 2 true 3],43):=by kernel_rfl
def adT:HCode:=dn (cu 25 8 26 25 (oP 27 .eql 26 (-1) 28 27 (lW 29 (o9 5) 3 30 (oD 8) 3 (lW 31 (jF 30) 3 32 (iH 29 31) 3 (D5 33 (jF 32) 3 (iF 34 (kE 28 33) 35 34 (lW 36 (o9 5) 10 37 (JU 3 8) 10 (lW 38 (jF 37) 10 39 (iH 36 38) 10 (lW 40 (jF 39) 10 41 (kz 40) 10 (gy 42 (kE 35 41))))))))))) (nV 42 (dn (gq 43 5 (lT 44 3 8 45 44 (jQ 46 (iH 43 45) (rQ (Eg true 1 46 Fb))))) (jk [xR 6 0])))
def c96:HCode:=jT (yC 2 2 (jq 4)) (vJ 9 (.bsl 1 0 []) (gq 10 1 (o8 11 (kN 1 9 10) 5 11))) (Xl [xR 6 0] (yV 0 (ja 12 6 [] 12 0 (.block 1 (jT (oI 6) (fJ 7) (yV 2 (ja 13 7 (cu 14 2 15 14 (rW 16 15 17 (vK 13 16) [])) 17 2 (G8 3 (cu 20 2 21 20 (fK 22 7 23 (oM 21 22) 24 (oU 23) (jQ 8 BU (rJ 4 8 24)))) adT (wQ 18 7 19 18 7 19)))))))) (gX (gq 47 5 (jZ 4 47))))
theorem aeA:bu Try.prog 96=some (c96,[4],48):=by kernel_rfl
def ac7:HCode:=oJ 1 (nX (some [0,0,3,7,0,0,48,112,255]) (jl 12 0 13 5 (iy 14 12 13 15 14 (jl 16 1 17 5 (iy 18 16 17 19 18 (gy 20 (.beq true (.t 15) (.t 19))))))) (kR 20 4)) 10 5 11 10 5 11
def c97:HCode:=qB (oI 4) 5 0 (ja 6 5 (kG 7 0 8 7 9 (vK 6 8) []) 9 0 ac7) (gX [xR 4 0])
theorem aev:bu Try.prog 97=some (c97,[4],21):=by kernel_rfl
def abA:HCode:=oJ 5 (nX (some [0,1,0,0,12,28,63,127,0,511,1023,2047]) (cu 52 1 53 52 (jl 54 6 55 8 (iy 56 54 55 57 56 (iy 58 53 57 59 58 (kV 60 10 61 59 60 62 61 (mg 11 62)))))) (vG (gq 63 4 (jl 64 3 65 11 (iy 66 64 65 67 66 (iy 68 63 67 69 68 (gy 70 (um 69 0)))))) (nV 70 (dn (gq 71 4 (jl 72 3 73 11 (iy 74 72 73 75 74 (kG 76 6 77 76 78 (iH 71 75) [rJ 1 78 77])))) (uf 79 6 (fK 80 11 81 (jE 80) 82 (kN 8 79 81) (jZ 6 82))))) (uf 83 9 (gq 84 4 (jl 85 3 86 11 (iy 87 85 86 88 87 (iy 89 84 88 90 89 (bI 91 (jE 90) 92 (kN 8 83 91) (jZ 9 92))))))))) 50 10 51 50 10 51
def OO:HCode:=.region (some [0,1,0,4,0,0,48,112,252,508,1020,2047,4095,8191]) (lT 99 2 7 100 99 (lT 101 2 1 102 101 (jl 103 6 104 8 (iy 105 103 104 106 105 (iy 107 102 106 108 107 (nS 109 (jE 108) 110 (kN 1 100 109) 111 (qp 7) (ji 111 110)))))))
def c98:HCode:=sN (bI 1 (Ba 3) 2 DK []) (bI 12 (AA 3 1) 13 (jh 88 12) (gy 14 (kz 13))) (uw 14 (jQ 15 (Gy []) (nR 2 15))) (dn (bI 16 (AA 3 1) 17 (jh 111 16) (jZ 3 17)) (qB (cu 18 1 19 18 (rW 20 19 21 (Gg 1 8 (.t 20)) (jZ 4 21))) 5 0 (ja 22 5 (kG 23 4 24 23 25 (vK 22 24) []) 25 0 (oJ 1 (jk (jl 28 4 29 5 (jQ 30 (iH 28 29) (rQ (Eg true 1 30 (pG (-1))))))) 26 5 27 26 5 27)) (jT (gq 31 4 (gq 32 3 (OA 33 (aak 1 32 (pG 0)) 34 1 33 (jQ 35 (iH 31 34) (rQ (Eg true 1 35 (pG 0))))))) (o8 36 (Ey (pg 0)) 6 36) (qB (gB 37 1 38 37 (bI 39 (Gy (EL 0 38)) 7 DK [nR 7 39])) 8 2 (ja 40 8 (kG 41 6 42 41 43 (vK 40 42) []) 43 2 (oJ 3 (qB [jq 9] 10 4 (ja 46 10 (gB 47 1 48 47 (H9 49 46 48)) 49 4 abA) (dn (cu 93 7 94 93 (gq 95 9 (nS 96 (jE 95) 97 (Ih false 1 24 94 96) 98 (lm 7) (ji 98 97)))) OO)) 44 8 45 44 8 45)) (gX (jQ 112 (AA 3 7) (nR 2 112)))))))
theorem afg:iZ Try.prog 98=some (c98,[.c 2 true 3],113):=by kernel_rfl
def adX:HCode:=nX (some [0,1,0,7,0,16,48,112,0,256,0,1792,4080,15,16383]) (lT 11 3 4 12 11 (di 13 2 (iF 14 (BA (pq 0 12 1 13)) 15 0 (bI 16 (AV 15) 17 (qp 16) (iU 18 17 19 (JU 3 4) (iF 20 (jF 19) 21 2 (bI 22 (BA (pq 0 20 1 21)) 23 (.mlook false (.ints 2) (.bool false) (.t 18) (.t 22)) (rJ 2 6 14::mg 7 23)))))))) .ret
def acr:HCode:=nX (some [0,1,0,4,15,0,32,96,224,0,512,0,2048,7680,16352,31,65535]) (lT 43 3 4 44 43 (fK 45 2 46 (oO .add 45 1) 47 (BA (pq 0 44 1 46)) (fK 48 0 49 (AV 48) 50 (qp 49) (iU 51 50 52 (JU 3 4) (iF 53 (jF 52) 54 2 (bI 55 (oO .add 54 1) 56 (BA (pq 0 53 1 55)) (vI 57 (.mlook false (.ints 2) (.bool false) (.t 51) (.t 56)) (rJ 2 6 47) (mg 7 57)))))))) .ret
def adp:HCode:=.seq (nX (some [0,0,2,6,14,30,63,127,255,511,1023,2047,255,8191,16383,255,33023,131071,262143]) (di 24 2 (fK 25 0 26 (AV 25) 27 (oD 26) (iU 28 27 29 (jv 28) (iF 30 (vK 24 29) 31 30 (lW 32 (jb 0) 7 33 (AV 32) 7 (oG 34 (oD 33) 7 35 34 7 (lW 36 (jb 2) 7 37 (iH 35 36) 7 (lW 38 (jF 37) 7 39 (lm 4) 7 (lW 40 (jF 39) 7 41 (qw .eql 38 40) 7 (gy 42 (kE 31 41))))))))))) (nV 42 acr)) (gX (vI 58 (BA []) (rJ 2 6 58) (oI 7)))
def c99:HCode:=sN (bI 4 (EP 4 1) 6 Em (oI 7)) (cu 8 4 9 8 (gy 10 (wL 9 (-1)))) (nV 10 adX) adp
theorem afc:iZ Try.prog 99=some (c99,[.c 6 true 2,.t 7],59):=by kernel_rfl
def ad3:HCode:=vX (fJ 4) (gY 6 0 (lM 7 6 8)) 0 (jo 9 8 7 9 0 (jJ 1 (tJ 10 8 5 10) (qy 11 1 (gY 12 0 (fK 13 5 14 (Ea 2 12 13) 15 (gZ 14) (gy 16 (uB 11 (o7 15))))) (uw 16 (tJ 17 5 4 17))) 18 8 8 18)) (gX [Fh 4 (-1)])
theorem adO:bu Try.prog 100=some (ad3,[4],19):=by kernel_rfl
def abp:HCode:=sN [jq 2] (nT 3 (gy 4 (.isn false (.t 3)))) (uw 4 [jq 2]) (gX (vJ 5 (.bsl 1 0 []) (nT 6 (o8 7 (kN 8 5 6) 2 7))))
theorem aar:bu Try.prog 101=some (abp,[2],8):=by kernel_rfl
def c105:HCode:=vX (fJ 4) (nT 6 (lM 7 6 8)) 0 (jo 9 8 7 9 0 (jJ 1 (tJ 10 8 5 10) (qy 11 1 (jl 12 0 13 5 (iy 14 12 13 15 14 (gy 16 (uB 11 (o7 15))))) (uw 16 (tJ 17 5 4 17))) 18 8 8 18)) (gX [Fh 4 (-1)])
theorem VI:bu Try.prog 105=some (c105,[4],19):=by kernel_rfl
def adY:HCode:=dn (oI 3) (gX (di 4 0 (oP 5 .lss 4 0 6 5 (MR 7 (jb 0) 2 8 1 2 (pW 9 (qw .geq 7 8) 2 (jA 10 6 9 3 10 []))))))
theorem adU:bu Try.prog 106=some (adY,[3],11):=by kernel_rfl
def c107:HCode:=jT (yC 1 3 (jq 2)) (cu 14 1 15 14 (rW 16 15 17 (Gg 1 8 (.t 16)) (jZ 3 17))) (dn (fJ 4) (yV 0 (.block 1 (dn (jy 18 (.mkmap .str) 5 18) (vX (kG 19 3 20 19 21 (Gg 1 8 (.t 20)) (jZ 6 21)) (cu 22 1 23 22 (lM 24 23 25)) 2 (jo 26 25 24 26 2 (jJ 3 (kV 27 25 28 23 25 29 28 (di 7 27 (jZ 8 29))) (sN (jl 30 3 31 7 (iy 32 30 31 33 32 (o8 34 (adr 112 XC (o7 33)) 9 34))) (lT 35 2 1 36 35 (kV 37 7 38 36 37 39 38 [])) (nV 39 (uf 40 9 (bI 41 (Ey [.c (.int .u8 1)]) 42 (kN 1 40 41) (jZ 9 42)))) (tu (gq 43 8 (lM 44 43 45)) 4 (jo 46 45 44 46 4 (jJ 5 (iy 47 43 45 48 47 (mg 11 48)) (uf 49 9 (jl 50 3 51 11 (iy 52 50 51 53 52 (o8 54 (iR 112 49 53) 9 54)))) 55 45 45 55)) (sN (di 57 5 (gq 58 9 (bI 59 (.tostr (.t 58)) 60 (.mlook true .str (OZ 0) (.t 57) (.t 59)) (fK 56 60 61 (oV 56) 62 (qZ 56) (tJ 12 61 13 62))))) (di 63 13 (gy 64 (kz 63))) (nV 64 (qy 65 5 (jy 66 (.mlen (.t 65)) 12 66) (jk (di 67 5 (gq 68 9 (iF 69 (.tostr (.t 68)) 70 12 [rQ (.mset .str (.t 67) (.t 69) (.t 70))])))))) (jk (jl 71 6 72 7 (di 73 12 (jQ 74 (iH 71 72) (rJ 1 74 73)))))))) 75 25 25 75)) (Le 76 5 (iF 77 (.mlen (.t 76)) 78 4 (gy 79 (qw .eql 77 78))) (uw 79 (gq 80 6 (jZ 2 80))) (qy 81 5 (jy 82 (.mlen (.t 81)) 4 82) (uf 83 6 (jZ 3 83)))))))))
theorem adV:bu Try.prog 107=some (c107,[2],84):=by kernel_rfl
def Yj:HCode:=.region (some [0,1,0,0,0,24,56,124,252,511,1023,2047]) (lT 77 2 10 78 77 (di 79 3 (jl 80 12 81 13 (iy 82 80 81 83 82 (bI 84 (uB 79 (o7 83)) 85 (jE 84) (bI 86 (kN 1 78 85) 87 (qp 10) [ji 87 86]))))))
def adB:HCode:=jT (jQ 8 DK (BR 9)) (fK 19 1 20 (Gy (EL 0 19)) 10 DK [nR 10 20]) (dn (iF 21 (.mkmap (.int .i64)) 22 0 (rQ (.mset (.int .i64) (.t 21) (.t 22) (pG 0))::tJ 23 21 11 23)) (qB (di 24 0 (o8 25 (jE 24) 12 25)) 13 0 (ja 26 13 (kG 27 12 28 27 29 (vK 26 28) []) 29 0 (oJ 1 (vX (di 32 1 (o8 33 (Gg 1 8 (.t 32)) 14 33)) (gq 34 14 (lM 35 34 36)) 2 (jo 37 36 35 37 2 (jJ 3 (tJ 38 36 15 38) (qy 39 2 (jl 40 12 41 13 (iy 42 40 41 43 42 (di 44 15 (jy 45 (uB 39 (mG 43 44)) 16 45)))) (sN (di 47 11 (di 48 16 (iF 49 (.mlook true (.int .i64) (OZ 0) (.t 47) (.t 48)) 46 49 (bI 50 (oV 46) 51 (qZ 46) (tJ 17 50 18 51))))) (di 52 18 (gy 53 (kz 52))) (nV 53 (sN (gq 54 12 (jy 55 (jv 54) 17 55)) (di 56 17 (gy 57 (wL 56 2048))) (uw 57 (vI 58 (Gy []) (nR 8 58) (oI 9))) (qy 59 11 (di 60 16 (di 61 17 [rQ (.mset (.int .i64) (.t 59) (.t 60) (.t 61))])) (uf 62 12 (fK 63 16 64 (jE 63) 65 (kN 8 62 64) (jZ 12 65)))))) (jk (jl 66 14 67 15 (di 68 17 (jQ 69 (iH 66 67) (rJ 1 69 68))))))) 70 36 36 70)) (dn (cu 71 10 72 71 (gq 73 14 (nS 74 (jE 73) 75 (Ih false 1 24 72 74) 76 (lm 10) (ji 76 75)))) Yj)) 30 13 31 30 13 31)) (gX (vI 88 (AA 3 10) (nR 8 88) [xR 9 0]))))
theorem adt:iZ Try.prog 108=some (adB,[.c 8 true 3,.t 9],89):=by kernel_rfl
def abD:HCode:=nX (some [0,0,2,0,0,24,56,126,254,0,1022,2046,4095,8191,16383]) (iU 8 2 9 (lm 3) (OA 10 (jF 9) 11 1 4 (kV 12 0 13 11 12 14 13 (iy 15 10 14 16 15 (kV 17 1 18 16 17 19 18 (iy 20 8 19 21 20 (mg 7 21))))))) .ret
def c109:HCode:=dn (fJ 7) abD
theorem adb:bu Try.prog 109=some (c109,[7],22):=by kernel_rfl
def ad1:HCode:=dn (oI 4) (nX (some [0,1,0,0,12,28,63,127,255]) (lT 5 2 1 6 5 (iF 7 (jF 2) 8 0 (iy 9 7 8 10 9 (iy 11 6 10 12 11 (mg 4 12))))) .ret)
theorem acX:bu Try.prog 110=some (ad1,[4],13):=by kernel_rfl
def aa0:HCode:=.seq (nX (some [0,0,2,7,15,31,31,31,31,415,927,31,4095,8191,16383]) (di 22 9 (kG 23 7 24 23 25 (vK 22 24) (di 26 25 (lW 27 (AA 3 1) 4 28 (o9 4) 4 (lW 29 (o9 7) 4 30 (jb 9) 4 (oG 31 (iH 29 30) 4 32 31 4 (lW 33 (jb 8) 4 34 (uo 113 27 (vz 28 (mG 32 33))) 4 (D5 35 (kz 34) 4 (gy 36 (kE 26 35)))))))))) (Nv 36 4)) (.block 5 (jk (wQ 37 9 38 37 9 38)))
def adg:HCode:=jT (yC 1 3 (jq 2)) (cu 10 1 11 10 (jy 12 (jv 11) 3 12)) (jT (di 13 3 (o8 14 (Gg 1 8 (.t 13)) 4 14)) (fJ 5) (yV 0 (.block 1 (qy 15 3 (o8 16 (Gg 1 8 (.t 15)) 6 16) (qB [jq 7] 8 2 (ja 17 8 (di 18 3 (H9 19 17 18)) 19 2 (G8 3 (fJ 9) (.seq (yV 4 aa0) (Le 39 9 (kG 40 7 41 40 42 (qw .eql 39 41) []) (nV 42 (uf 43 7 (fK 44 8 45 (jE 44) 46 (kN 8 43 45) (jZ 7 46)))) (jk (jl 47 6 48 8 (di 49 9 (jQ 50 (iH 47 48) (rJ 1 50 49))))))) (wQ 20 8 21 20 8 21))) (vG (gq 51 7 (iF 52 (jv 51) 53 5 (gy 54 (qw .eql 52 53)))) (uw 54 (gq 55 6 (jZ 2 55))) (dn (gq 56 7 (jy 57 (jv 56) 5 57)) (uf 58 6 (jZ 4 58)))))))))
theorem aco:bu Try.prog 111=some (adg,[2],59):=by kernel_rfl
def abE:HCode:=gX (jl 5 0 6 1 (iF 7 (.conv .u8 (.t 6)) 8 1 (bI 9 (WQ .shr 8 (.c (.int .u64 8))) 10 (.conv .u8 (.t 9)) (fK 11 1 12 (WQ .shr 11 (.c (.int .u64 16))) 13 (.conv .u8 (.t 12)) (bI 14 (.bsl 1 3 (vz 7 (mG 10 13))) 15 (kN 1 5 14) (jZ 4 15))))))
def aa9:HCode:=dn [jq 4] abE
theorem aaz:bu Try.prog 112=some (aa9,[4],16):=by kernel_rfl
def ach:HCode:=oJ 1 (nX (some [0,0,2,0,14,30,0,126,254,511,1023,0,0,4096,0,28672,61440,0,258048,520192,1046528,2095104,4194303]) (gq 38 1 (cu 39 4 40 39 (kV 41 2 42 40 41 43 42 (kV 44 9 45 43 44 46 45 (iy 47 38 46 48 47 (gq 49 1 (cu 50 4 51 50 (kV 52 3 53 51 52 54 53 (kV 55 9 56 54 55 57 56 (iy 58 49 57 59 58 (gy 60 (wC 48 59)))))))))))) (kR 60 8)) 36 9 37 36 9 37
def abm:HCode:=.seq (nX (some [0,0,3,7,0,0,48,112,255,511,1023,2047,1023,8191,16383,1023,33791,1023,230399,492543,1048575,2097151]) (jl 10 1 11 2 (iy 12 10 11 13 12 (jl 14 1 15 3 (iy 16 14 15 17 16 (iF 18 (wC 13 17) 19 18 (kF 20 2 4 9 21 20 9 (lJ 22 2 9 23 (iH 21 22) 9 (ku 24 (jF 23) 9 25 (qp 4) 9 (ku 26 (jF 25) 9 27 (jb 3) 9 (MR 28 (iH 26 27) 9 29 28 9 (pW 30 (.beq true (.t 24) (.t 29)) 9 (lY 31 19 30)))))))))))) (kR 31 8)) (tu (fJ 9) 0 (ja 32 9 (gB 33 4 34 33 (H9 35 32 34)) 35 0 ach) (gX [xR 8 0]))
def adf:HCode:=dn (yC 4 3 (BR 8)) abm
theorem adD:bu Try.prog 113=some (adf,[8],61):=by kernel_rfl
end Go.Proofs.Ytlbdmpjnmfmnfaa
