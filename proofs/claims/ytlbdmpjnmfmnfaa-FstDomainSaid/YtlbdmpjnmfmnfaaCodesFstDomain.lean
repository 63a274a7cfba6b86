import Derived.Test.YtlbdmpjnmfmnfaaHl4
import Derived.Test.YtlbdmpjnmfmnfaaProg
set_option linter.unusedVariables false
set_option maxRecDepth 100000
namespace Go.Proofs.Ytlbdmpjnmfmnfaa
open Go.HL
def adz:HCode:=qy 71 17 (di 72 19 (iF 73 (wC 71 72) 74 73 (ku 75 (AA 3 16) 3 76 (AA 3 18) 3 (ku 77 (iR 48 75 76) 3 78 (kz 77) 3 (lY 79 74 78))))) (kR 79 10)
def acB:HCode:=nX (some [0,0,3,7,0,0,48,112,255,511,1023,1023,0,6143,16383]) (gY 60 12 (fK 61 14 62 (Ea 2 60 61) 63 (gZ 62) (jl 64 13 65 15 (iy 66 64 65 67 66 (iF 68 (iR 47 63 67) 59 68 (bI 69 (oV 59) 70 (qZ 59) (vI 18 DK (nR 18 69) (mg 19 70)))))))) adz
def acx:HCode:=oJ 3 (nX (some [0,0,3,7,0,0,48,112,255,511,1023,1023,0,6143,16383]) (gY 48 12 (fK 49 14 50 (Ea 2 48 49) 51 (gZ 50) (jl 52 13 53 15 (iy 54 52 53 55 54 (iF 56 (iR 46 51 55) 47 56 (bI 57 (oV 47) 58 (qZ 47) (vI 16 DK (nR 16 57) (mg 17 58)))))))) acB) 45 15 46 45 15 46
def abR:HCode:=qy 100 25 (oP 101 .neq 100 0 102 101 (lW 103 (jb 25) 2 104 (oO .neq 103 4) 2 (iF 105 (kE 102 104) 106 105 (ku 107 (AA 3 20) 6 108 (o9 23) 6 (ku 109 (iR 49 107 108) 6 110 (jb 25) 6 (ku 111 (wL 110 4) 6 112 (jb 111) 6 (ku 113 (o9 24) 12 114 (jv 113) 12 (ku 115 (lh 114 0) 12 116 (abT 112 115) 6 (pW 117 (.beq true (.t 109) (.t 116)) 6 (lY 118 106 117)))))))))) (kR 118 10)
def c10:HCode:=jT (oI 10) (nT 26 (bI 27 (jh 11 26) 11 BC [wK 2 11 27])) (nX (some [0,0,0,0,14,31,63]) (ui 28 11 29 (gZ 11) (di 30 3 (fK 31 4 32 (uo 12 29 (mG 30 31)) 33 (.bsl 2 2 (mG 28 32)) (gY 12 33 [])))) (qB (di 34 2 (fK 35 2 36 (uo 16 35 (pg 4)) 37 (.bin .add (pG 1) (.t 36)) (o8 38 (.bsl 1 3 (vz 34 (A8 37 3))) 13 38))) 14 0 (ja 39 14 (gy 40 (um 39 2)) 40 0 (G8 1 (fJ 15) (yV 2 (ja 43 15 (gy 44 (um 43 3)) 44 2 acx)) (wQ 41 14 42 41 14 42))) (sN (ui 81 11 82 (uo 46 81 (pg 3)) (fK 80 82 83 (oV 80) 84 (qZ 80) (vI 20 DK (nR 20 83) (mg 21 84)))) (di 85 21 (gy 86 (oO .neq 85 0))) (kR 86 10) (tu (fJ 22) 4 (ja 87 22 (gy 88 (oO .leq 87 5)) 88 4 (G8 5 (jl 91 1 92 22 (o8 93 (iR 14 91 92) 23 93)) (dn (vJ 95 (gZ 11) (gq 96 23 (iF 97 (uo 17 95 (A8 96 8)) 94 97 (bI 98 (oV 94) 99 (qZ 94) (jl 24 98 25 99 []))))) abR) (wQ 89 22 90 89 22 90))) (gX (jy 119 (.call 20 []) 10 119))))))
theorem ae3:bu Try.prog 10=some (c10,[10],120):=by kernel_rfl
end Go.Proofs.Ytlbdmpjnmfmnfaa
