import Derived.Test.YtlbdmpjnmfmnfaaHl4
import Derived.Test.YtlbdmpjnmfmnfaaProg
import Derived.Test.YtlbdmpjnmfmnfaaCodes1
set_option linter.unusedVariables false
set_option maxRecDepth 100000
namespace Go.Proofs.Ytlbdmpjnmfmnfaa
open Go.HL
def adI:HCode:=jV 1 (.region (some [0,0,2,0,14,30,62,0,0,256,0,1792,3840,7936,16256,32640,0,65536,0,458752,983040,2031616,4194176,8388607,16777215]) (jS 31 6 32 (fV 2) (jg 33 32 34 7 (rJ 35 33 34 36 3 35 (gK 37 36 38 (iI 6) (iD 39 2 40 39 (lC 41 7 42 40 41 (ig 43 3 42 44 43 (jE 45 38 44 46 45 (iD 47 2 48 47 (lC 49 7 50 48 49 (jY 51 (kZ 50) 52 4 51 (bW 53 (kS 46 52) 54 (iV 31 37) (uU 1 54 53)))))))))))))) 29 7 30 29 7 30
def abK:HCode:=lh (some [0,1,3,7,7,23,63,127,7,263,1023,2047]) (fZ 133 13 134 (gU 133 0) (nD 135 134 (gZ 136 rV 2 137 (fU 13) 2 (gZ 138 (uZ 137 1) 2 139 (iV 136 138) 2 (oh 140 139 2 141 (fV 15) 2 (oh 142 141 2 143 (jo .eql 140 142) 2 (rH 144 135 143))))))) (qW 144 (ig 145 0 15 146 145 (fZ 147 5 148 (xq 146 147) (fZ 149 13 150 (nO 148 149) (lu 151 (uZ 150 1) 16 151)))))
def acV:HCode:=jB 152 16 153 (qM .geq 152 0) (nD 154 153 (gZ 155 (iI 8) 2 156 (fU 16) 2 (nI 157 (iV 155 156) 2 158 157 2 (xI 159 (gI 158) 2 (rH 160 154 159))))) (jM 160 (nR 161 8 162 16 (oU 163 (iV 161 162) [xO 1 163 o7]) (kF (lm 164 9 165 16 (mX 166 1 165 167 (pM 164 166) (iR 9 167))))))
def acl:HCode:=jV 7 (nR 117 6 118 12 (jE 119 117 118 120 119 (lC 121 14 122 120 121 (bW 123 (kZ 122) 15 yl (yF 4 15 123 [])))) (xJ 16 kz (rM 124 15 125 124 (gz 126 (Ad 125)) (vG 126 (ig 127 0 15 128 127 (fZ 129 5 130 (xq 128 129) (Nk 131 13 132 (nO 130 131) 16 132))) abK) acV))) 115 14 116 115 14 116
def c59:HCode:=mY 2 2 4 (.newz [.nils,.nils,.nils]) (jr 17 1 18 (dQ 17) (Wj 19 18 5 19) (iM 20 2 21 20 (oV 22 21 23 (.mksl 1 24 [.osl 4 0 []] (.t 22)) (iR 6 23)) (kM 7 (fP 24 7 25 (fV 2) (uJ 26 25 27 26 28 24 27) 28 0 adI) (jB 55 5 56 (fM 2) (qc 57 56 58 57 (bW 59 (xq 55 58) 60 (zZ 1 1 (.t 59)) (iR 8 60))) (mf 9 (vk 10 2 (fP 61 10 62 (fM 2) (uJ 63 62 64 63 65 61 64) 65 2 (jV 3 (iM 68 2 69 68 (lD 70 10 71 69 70 (gz 72 (oL 71))) (jM 72 (nR 73 8 74 10 (fZ 75 5 76 (xq 74 75) (jS 77 1 78 (dQ 77) (bW 79 (nO 76 78) 80 (iV 73 79) [xO 1 80 o7]))) (kF (lm 81 9 82 10 (fZ 83 5 84 (xq 82 83) (jS 85 1 86 (dQ 85) (jY 87 (nO 84 86) 88 1 87 (uh 89 (pM 81 88) 9 89))))))))) 66 10 67 66 10 67)) (vk 11 4 (fP 90 11 91 (iI 9) (nG 92 91 93 90 92) 93 4 (jV 5 (nR 96 9 97 11 (jE 98 96 97 99 98 (Nk 100 5 101 (jo .quo 99 100) 12 101)) (nR 102 9 103 11 (jE 104 102 103 105 104 (Nk 106 5 107 (jo .rem 105 106) 13 107)) (IK 14 6 (fP 108 14 109 (iI 6) (lD 110 12 111 109 110 (uJ 112 111 113 112 114 108 113)) 114 6 acl)))) 94 11 95 94 11 95)) (jr 168 1 169 (iG 2) (bW 170 (gX 81 169) 171 (iI 8) (nS 172 (.bld [.nils,.nils,.nils] (tC 0 168 (kJ 1 170 2 171))) 3 4 172)) .ret))))))))
theorem afx:dU Try.prog 59=some (c59,[.c 4 true 3],173):=by kernel_rfl
def adw:HCode:=jB 82 12 83 (qM .geq 82 0) (nD 84 83 (gZ 85 (jy 10) 2 86 (fU 11) 2 (gZ 87 (pW 85 86) 2 88 (lM 87) 2 (oh 89 88 2 90 (Ad 89) 2 (gG 91 (lY 84 90) 92 91 (gZ 93 (iI 6) 10 94 (fU 12) 10 (nI 95 (iV 93 94) 10 96 95 10 (xI 97 (gI 96) 10 (rH 98 92 97))))))))) (jM 98 (nR 99 6 100 12 (oU 101 (iV 99 100) [xO 1 101 o7]) (kF (lm 102 7 103 12 (mX 104 1 103 105 (pM 102 104) (iR 7 105))))))
def abp:HCode:=jV 5 (lh (some [0,0,0,6,14,0,0,96,224,0,992,2047,4095]) (bW 70 (zO 3 2) 71 (jy 10) (lC 72 11 73 71 72 (bW 74 (kZ 73) 75 (iI 7) (lD 76 9 77 75 76 (jg 78 77 79 5 (bW 80 (jo .rem 78 79) 81 (lG 102 70 74 80) (oN 12 81))))))) adw) 68 11 69 68 11 69
def acr:HCode:=jV 3 (lh (some [0,1,0,0,12,28,0,124,255,511,1023]) (iD 54 2 55 54 (lm 56 7 57 9 (jE 58 56 57 59 58 (fZ 60 5 61 (jo .quo 59 60) (jE 62 55 61 63 62 (gz 10 (jy 63))))))) (IK 11 4 (fP 64 11 65 (jy 10) (nG 66 65 67 64 66) 67 4 abp))) 52 9 53 52 9 53
def c60:HCode:=mY 2 3 4 xE (iM 13 2 14 13 (oV 15 14 16 (Az 15) (oN 5 16)) (Pj 17 2 2 18 17 (oV 19 18 20 (zZ 1 1 (.t 19)) (iR 6 20)) (mf 7 (kM 8 (fP 21 8 22 rV (nG 23 22 24 21 23) 24 0 (jV 1 (pG 27 6 28 1 (lD 29 8 30 28 29 (gK 31 30 32 (iV 27 31) (gK 33 32 34 (gI 33) []))) (jM 34 (pG 35 6 36 1 (lD 37 8 38 36 37 (gK 39 38 40 (iV 35 39) [xO 1 40 o7])) (kF (jS 41 7 42 rV (lD 43 8 44 42 43 (gK 45 44 46 (xg 1 45) (uh 47 (pM 41 46) 7 47)))))))) 25 8 26 25 8 26)) (vk 9 2 (fP 48 9 49 (iI 7) (nG 50 49 51 48 50) 51 2 acr) (pG 106 7 4 106 [] .ret))))))
theorem afv:bz Try.prog 60=some (c60,[4],107):=by kernel_rfl
def ady:HCode:=jB 51 12 52 (qM .geq 51 0) (nD 53 52 (gZ 54 (jy 10) 2 55 (fU 11) 2 (gZ 56 (pW 54 55) 2 57 (lM 56) 2 (oh 58 57 2 59 (fU 2) 2 (xI 60 (jo .eql 58 59) 2 (rH 61 53 60)))))) (qW 61 (lm 62 8 63 12 (mX 64 1 63 65 (pM 62 64) (iR 8 65))))
def adq:HCode:=jV 3 (lh (some [0,0,0,6,14,0,0,96,224,0,992,2047,4095]) (bW 39 (zO 3 3) 40 (jy 10) (lC 41 11 42 40 41 (bW 43 (kZ 42) 44 rV (lD 45 9 46 44 45 (jg 47 46 48 7 (bW 49 (jo .rem 47 48) 50 (lG 102 39 43 49) (oN 12 50))))))) ady) 37 11 38 37 11 38
def adn:HCode:=jV 1 (lh (some [0,1,0,0,12,28,0,124,255,511,1023]) (iD 23 3 24 23 (lm 25 1 26 9 (jE 27 25 26 28 27 (fZ 29 7 30 (jo .quo 28 29) (jE 31 24 30 32 31 (gz 10 (jy 32))))))) (IK 11 2 (fP 33 11 34 (jy 10) (nG 35 34 36 33 35) 36 2 adq))) 21 9 22 21 9 22
def c61:HCode:=mY 3 3 6 xE (iM 13 3 14 13 (oV 15 14 16 (Az 15) (oN 7 16)) (mf 8 (kM 9 (fP 17 9 18 rV (nG 19 18 20 17 19) 20 0 adn) (jK 66 (zO 3 3) 67 (iI 8) (uh 68 (iw 60 66 67) 6 68) .ret))))
theorem agm:bz Try.prog 61=some (c61,[6],69):=by kernel_rfl
def aeQ:HCode:=jV 1 (lh (some [0,0,3,7,0,0,48,112,255]) (lm 17 0 18 5 (jE 19 17 18 20 19 (lm 21 1 22 5 (jE 23 21 22 24 23 (gz 25 (jo .neq 20 24)))))) (pq 25 4)) 15 5 16 15 5 16
def c62:HCode:=tJ 4 (kY 6 1 0 7 (dQ 6) (jS 8 1 9 (dQ 8) (gz 10 (jo .neq 7 9))) (pq 10 4) (kM 5 (fP 11 5 12 pg (nG 13 12 14 11 13) 14 0 aeQ) (xJ 4 o7 .ret)))
theorem agp:bz Try.prog 62=some (c62,[4],26):=by kernel_rfl
def adv:HCode:=jK 1 (IX 1 [o7]) 2 (OI [(1,1,l7),(2,1,jT)]) (bW 3 (OI [(1,1,l7),(2,1,kz)]) 4 (.bsl 4 2 (nM 2 3)) (nS 5 (U7 (kJ 0 1 1 4)) 2 0 5)) .ret
def c63:HCode:=AC 0 jW adv
theorem afH:dU Try.prog 63=some (c63,[.c 0 true 2],6):=by kernel_rfl
def abj:HCode:=.region (some [0,0,2,0,0,16,56,120,0,256,1016,2047,4095]) (jS 17 3 18 (fM 5) (gK 19 18 20 (iI 3) (ig 21 0 5 22 21 (jE 23 20 22 24 23 (jY 25 (kZ 5) 26 4 25 (bW 27 (kS 24 26) 28 (iV 17 19) (uU 1 28 27)))))))
def c64:HCode:=mY 1 2 2 xE (iM 6 1 7 6 (oV 8 7 9 (.mksl 1 24 [.osl 4 0 []] (.t 8)) (iR 3 9)) (rM 10 1 11 10 (uI 12 11 13 qQ) (kR 0 14 13 12 14 0 (jO 1 (jK 15 (pW 11 13) 16 (kZ 15) (mV 5 yl 4 5 16) abj) 29 13 13 29)) (pG 30 3 2 30 [] .ret)))
theorem afm:bz Try.prog 64=some (c64,[2],31):=by kernel_rfl
def V6:HCode:=xA (some [0,1,0,0,0,0,0,96,252,508,1023,2047,4095]) 29 6 30 29 (qO 31 0 32 1 (fZ 33 2 34 (oL 4) (pU 35 10 36 (.mlook false (.ints 2) (acD 0) (.t 34) (.t 35)) (jY 37 (rW 0 31 (tC 1 32 (kJ 2 33 3 36))) 38 4 37 (jJ 39 (kS 30 38) 40 1 6 40 39)))))
def c65:HCode:=AC 10 (EP 2 3) (.seq (jK 14 (oL 4) 15 (iG 10) (gG 16 (.mlook true (.ints 2) (acD 0) (.t 14) (.t 15)) 13 16 (bW 17 (uy 13) 18 (vW 13 1) (qO 11 17 12 18 []))) (jB 19 12 20 (gI 19) [] (jM 20 (jK 21 (oL 4) 22 (iG 10) (qc 23 5 24 23 [Ha (.mset (.ints 2) (.t 21) (.t 22) (.t 24))]) (kF (gK 25 5 26 (iG 10) (mX 27 2 26 28 (OZ 2 16 25 27) (uU 1 5 28)))))))) V6)
theorem af2:bz Try.prog 65=some (c65,[],41):=by kernel_rfl
def c67:HCode:=mf 2 (kY 3 1 0 4 (.isn false (.t 3)) [] (jM 4 (mf 2 .ret)) (jK 5 (nX 0 []) 6 pg (uh 7 (rX 5 6) 2 7) .ret))
theorem agd:bz Try.prog 67=some (c67,[2],8):=by kernel_rfl
def c68:HCode:=mf 6 (jB 9 0 10 (zZ 1 1 (.t 9)) (iR 7 10) (.seq (II 0 (Yd 11 1 1 12 (dQ 11) (gz 13 (gU 12 0)) 13 0 (.block 1 (pG 14 1 15 1 (oV 16 15 17 (uZ 16 1) (jE 18 14 17 19 18 (oN 8 19))) (pG 20 1 21 1 (oV 22 21 23 (uZ 22 1) (uh 24 (.slc 1 (.t 20) none (some (.t 23))) 1 24)) (nR 25 7 26 8 (jE 27 25 26 28 27 (gz 29 (gI 28))) (jM 29 (nR 30 7 31 8 (oU 32 (iV 30 31) [xO 1 32 o7]) (kF (lm 33 1 34 2 (fZ 35 8 36 (.callv (.t 34) (rq 35)) (uh 37 (pM 33 36) 1 37)))))))))))) (pG 38 7 6 38 [] .ret)))
theorem afR:bz Try.prog 68=some (c68,[6],39):=by kernel_rfl
def c70:HCode:=mf 2 (mf 3 (kY 6 1 0 7 (dQ 6) (lS 8) (kR 0 9 8 7 9 0 (jO 1 (jB 10 8 11 (iV 6 8) (jg 12 11 4 10 (oN 5 12)) (AC 13 (fU 5) (qW 13 (lm 14 3 15 4 (mX 16 1 15 17 (pM 14 16) (iR 3 17)))))) 18 8 8 18)) (pG 19 3 2 19 [] .ret)))
theorem agi:bz Try.prog 70=some (c70,[2],20):=by kernel_rfl
def c72:HCode:=tJ 2 (jB 3 0 4 (qM .geq 3 0) (nD 5 4 (gZ 6 (fU 0) 2 7 (lF 6 64) 2 (lu 8 (lY 5 7) 2 8))) .ret)
theorem agB:bz Try.prog 72=some (c72,[2],9):=by kernel_rfl
def c73:HCode:=tJ 2 (jK 3 qQ 4 qQ [] (kY 7 2 0 8 (dQ 7) (lS 9) (kR 0 10 9 8 10 0 (jO 1 (jK 11 (Hg 2 7 9) 12 (iG 11) (nS 6 jW 2 6 12) (.seq (kN 13 6 14 (gX 26 13) (gz 15 (gI 14)) (pq 15 2)) (jB 16 3 17 (fM 6) (qc 18 17 19 18 (lu 20 (nO 16 19) 3 20)) (kF (fZ 21 4 22 (fV 6) (qc 23 22 24 23 (lu 25 (nO 21 24) 4 25))))))) 26 9 9 26)) (jB 27 3 28 (qM .leq 27 2000) (nD 29 28 (gZ 30 (fU 4) 2 31 (qM .leq 30 6000) 2 (lu 32 (lY 29 31) 2 32))) .ret)))
theorem afM:bz Try.prog 73=some (c73,[2],33):=by kernel_rfl
def c74:HCode:=mf 2 (IV 3 (kY 9 1 0 10 (dQ 9) (lS 11) (kR 0 12 11 10 12 0 (jO 1 (yG (jE 13 9 11 14 13 (iR 5 14)) (jB 15 3 16 (iI 5) (oV 17 16 18 (nO 15 17) (oN 3 18)) (jB 19 3 20 (lF 19 0) [] (qW 20 (oU 21 .bad [Ha .bad]))))) 22 11 11 22)) (jB 23 3 24 (IM 103 KG (rq 23)) (iR 6 24) (kY 25 1 0 26 (dQ 25) (lS 27) (kR 2 28 27 26 28 2 (jO 3 (yG (jE 29 25 27 30 29 (iR 8 30)) (kF (jS 31 6 32 (iI 8) (uh 33 (rX 31 32) 6 33)))) 34 27 27 34)) (pG 35 6 2 35 [] .ret)))))
theorem agn:bz Try.prog 74=some (c74,[2],36):=by kernel_rfl
def Wy:HCode:=.region (some [0,0,0,4,14,0,32,0,128,0,0,1024,3614,8190,16382,32767,65535]) (xG 16 4 0 17 2 (ig 18 0 8 19 18 (GG 20 (.callv (.t 17) (rq 19)) 21 1 8 (gK 22 21 23 (lM 8) (jg 24 23 25 2 (ig 26 3 8 27 26 (bW 28 (.callv (.t 25) (rq 27)) 29 (rW 0 20 (tC 1 22 (kJ 2 24 3 28))) (mX 30 4 29 31 (kS 16 30) (gz 0 (jy 31))))))))))
def c75:HCode:=NW 4 2 1 6 (RX 4) [] (rM 9 4 10 9 (uI 11 10 12 qQ) (kR 0 13 12 11 13 0 (jO 1 (jK 14 (pW 10 12) 15 (kZ 14) (mV 8 yl 4 8 15) Wy) 32 12 12 32)) (BM 33 4 0 6 (jy 33) [] .ret))
theorem afN:bz Try.prog 75=some (c75,[6],34):=by kernel_rfl
def c76:HCode:=AC 4 yl (qV 5 0 6 1 (mV 7 (rW 0 5 ((1,1,kz)::(2,1,kz)::zX 3 6)) 4 4 7) .ret)
theorem afL:dU Try.prog 76=some (c76,[.c 4 true 4],8):=by kernel_rfl
def c77:HCode:=mY 1 1 2 (oq (.c .nilf)) (Ak (lu 3 (.mkfn 104 (rq 1)) 2 3))
theorem af8:bz Try.prog 77=some (c77,[2],4):=by kernel_rfl
def c78:HCode:=tJ 2 (jB 3 0 4 (gX 72 3) (lu 5 (gI 4) 2 5) .ret)
theorem ags:bz Try.prog 78=some (c78,[2],6):=by kernel_rfl
def c79:HCode:=tJ 4 (nR 5 0 6 1 (bW 7 (iw 105 5 6) 8 (qM .geq 7 0) (oN 4 8)) .ret)
theorem ad9:bz Try.prog 79=some (c79,[4],9):=by kernel_rfl
def c80:HCode:=IV 4 (kY 5 0 1 6 pg (nG 7 6 8 5 7) (jM 8 (nR 9 0 10 1 (jE 11 9 10 12 11 (oN 4 12)) .ret)) (xJ 4 kz .ret))
theorem afD:bz Try.prog 80=some (c80,[4],13):=by kernel_rfl
def adS:HCode:=jV 1 (.region (some [0,0,2,0,14,30,62,0,0,256,0,1792,3840,7936,16256,32640,0,65536,0,458752,983040,2031616,4194176,8388607,16777215]) (jS 16 3 17 pV (jg 18 17 19 4 (rJ 20 18 19 21 0 20 (gK 22 21 23 (iI 3) (iD 24 1 25 24 (lC 26 4 27 25 26 (ig 28 0 27 29 28 (jE 30 23 29 31 30 (iD 32 1 33 32 (lC 34 4 35 33 34 (jY 36 (kZ 35) 37 4 36 (bW 38 (kS 31 37) 39 (iV 16 22) (uU 1 39 38)))))))))))))) 14 4 15 14 4 15
def c81:HCode:=mY 1 2 2 xE (iM 5 1 6 5 (oV 7 6 8 (.mksl 1 24 [.osl 4 0 []] (.t 7)) (iR 3 8)) (kM 4 (fP 9 4 10 pV (uJ 11 10 12 11 13 9 12) 13 0 adS) (pG 40 3 2 40 [] .ret)))
theorem af4:bz Try.prog 81=some (c81,[2],41):=by kernel_rfl
def adZ:HCode:=.region (some [0,0,0,6,14,30,0,0,192,0,0,1536,3584,7680,16320,32766,65534,131071,262143]) (Bc 27 4 11 28 (jy 3) (lC 29 12 30 28 29 (ig 31 2 30 32 31 (qO 33 0 34 4 (bW 35 (xq 33 34) 36 (jy 3) (lC 37 12 38 36 37 (ig 39 3 38 40 39 (bW 41 (nO 35 40) 42 (OI ((1,1,kz)::kJ 2 32 3 41)) (mX 43 4 42 44 (kS 27 43) (gz 11 (jy 44)))))))))))
def adl:HCode:=lh (some [0,0,0,6,14,30,0,0,192,448,960,0,4032,0,16320,32766,65534,131071,262143]) (Bc 57 4 11 58 (jy 2) (lC 59 13 60 58 59 (iD 61 60 62 61 (xG 63 4 2 64 13 (rJ 65 63 64 66 3 65 (jg 67 66 68 4 (gG 69 (xq 67 68) 70 1 (bW 71 (nO 69 70) 72 (rW 1 62 ((2,1,kz)::zX 3 71)) (mX 73 4 72 74 (kS 57 73) (gz 11 (jy 74))))))))))) (.exit 3)
def adG:HCode:=.region (some [0,0,0,6,14,30,0,0,192,448,960,0,0,6144,14336,30720,0,129024,0,0,786432,1835008,3932160,8386560,16777214,33554430,67108863,134217727]) (Bc 92 4 11 93 (jy 2) (lC 94 13 95 93 94 (iD 96 95 97 96 (xG 98 4 3 99 14 (rJ 100 98 99 101 2 100 (gK 102 101 103 (jy 2) (lC 104 13 105 103 104 (ig 106 3 105 107 106 (fZ 108 4 109 (xq 107 108) (xG 110 4 3 111 14 (rJ 112 110 111 113 3 112 (gK 114 113 115 (nO 109 114) (jY 116 (rW 1 97 (kJ 2 102 3 115)) 117 4 116 (nT 118 (kS 92 117) 11 (jy 118)))))))))))))))
def aeI:HCode:=jV 5 (lh (some [0,0,3,7,15,0,0,96,224,480,1023]) (xG 81 4 3 82 14 (rJ 83 81 82 84 1 83 (gK 85 84 86 (jy 2) (lC 87 13 88 86 87 (ig 89 2 88 90 89 (gz 91 (jo .eql 85 90))))))) (jM 91 adG)) 79 14 80 79 14 80
def c82:HCode:=BU 10 4 (BU 11 4 (kM 12 (fP 15 12 16 (jy 3) (nG 17 16 18 15 17) 18 0 (jV 1 (BM 21 4 3 22 (fU 12) (rJ 23 21 22 24 1 23 (gK 25 24 26 (Ad 25) [])) (jM 26 adZ)) 19 12 20 19 12 20)) (vk 13 2 (fP 45 13 46 (jy 2) (nG 47 46 48 45 47) 48 2 (jV 3 (kY 51 4 2 52 (fU 13) (rJ 53 51 52 54 2 53 (gK 55 54 56 (Ad 55) [])) (jM 56 adl) (IK 14 4 (fP 75 14 76 (jy 3) (nG 77 76 78 75 77) 78 4 aeI))) 49 13 50 49 13 50)) (BM 119 4 11 10 (jy 119) [] .ret))))
theorem afJ:bz Try.prog 82=some (c82,[10],120):=by kernel_rfl
def aeY:HCode:=kF (Bc 25 4 7 26 (fM 9) (jg 27 26 28 2 (GG 29 (nO 27 28) 30 1 9 (gK 31 30 32 (lM 9) (gK 33 32 34 (Bf 3 9) (jg 35 34 36 2 (bW 37 (nO 35 36) 38 (rW 0 29 (tC 1 31 (kJ 2 33 3 37))) (mX 39 4 38 40 (kS 25 39) (gz 7 (jy 40))))))))))
def c83:HCode:=NW 4 2 1 6 (RX 4) [] (jK 10 (.bsl 4 0 []) 11 (jy 0) (nT 12 (kS 10 11) 7 (jy 12)) (kM 8 (fP 13 8 14 (fV 4) (uJ 15 14 16 15 17 13 16) 17 0 (jV 1 (rC 20 4 21 20 (lC 22 8 23 21 22 (bW 24 (kZ 23) 9 yl (yF 4 9 24 []))) aeY) 18 8 19 18 8 19)) (BM 41 4 7 6 (jy 41) [] .ret)))
theorem agt:bz Try.prog 83=some (c83,[6],42):=by kernel_rfl
def aeZ:HCode:=jV 3 (kF (jS 25 8 26 pg (qO 27 1 28 7 (bW 29 (xq 27 28) 30 (xk (jk 9) 29) (fZ 31 9 32 (nO 30 31) (fZ 33 5 34 (lG 50 26 32 33) (mX 35 1 34 36 (pM 25 35) (iR 8 36)))))))) 23 9 24 23 9 24
def aeJ:HCode:=.region (some [0,1,0,0,8,28,60,124,255,511,1023]) (ig 43 2 6 44 43 (lm 45 0 46 7 (bW 47 (xk (jk 2) 46) 48 (rU 50 45 47 [jk 3]) (jY 49 (vz 48 1) 50 1 49 (jJ 51 (rX 44 50) 52 2 6 52 51)))))
def c84:HCode:=AC 4 H6 (jr 10 0 11 (rP 50 10 jT [jk 7]) (lu 12 (xk jT 11) 5 12) (jB 13 1 14 (.bld [.int .i64 0,.nils,.nils] (zX 0 13)) (nS 6 H6 3 6 14) (kM 7 (fP 15 7 16 (fU 5) (Gn 17 15 16) 17 0 (jV 1 (mf 8 (vk 9 2 (fP 20 9 21 (fU 1) (Gn 22 20 21) 22 2 aeZ) (rC 37 6 38 37 (jS 39 8 40 (xg 1 39) (jJ 41 (EU false 1 24 38 40) 42 1 6 42 41)) aeJ))) 18 7 19 18 7 19)) (XF 53 (zO 3 6) 3 4 53))))
theorem afK:dU Try.prog 84=some (c84,[.c 4 true 3],54):=by kernel_rfl
def ad4:HCode:=jr 39 5 40 (dQ 39) (ig 41 0 1 42 41 (gG 43 (jo .neq 40 42) 44 43 (gp 45 (iI 5) 5 46 (.mkfn 106 (rq 3)) 5 (su 47 (iw 79 45 46) 5 48 44 47)))) (pq 48 2)
def adA:HCode:=.seq (iM 9 1 10 9 (gG 11 (lF 10 1) 12 11 (je 13 (fM 1) 3 14 13 3 (sH 15 (gU 14 64) 3 (ji 16 12 15 17 16 (gp 18 (oL 3) 8 19 (lF 18 1) 8 (ji 20 17 19 21 20 (gp 22 (oL 3) 12 23 (gU 22 2048) 12 (ji 24 21 23 25 24 (je 26 (lM 1) 16 27 26 16 (je 28 (dQ 27) 16 29 3 16 (su 30 (jo .neq 28 29) 16 31 25 30))))))))))) (pq 31 2)) (rM 32 1 33 32 (uI 34 33 35 qQ) (kR 0 36 35 34 36 0 (jO 1 (yG (jE 37 33 35 38 37 (iR 5 38)) ad4) 49 35 35 49)) (xJ 2 o7 .ret))
def c85:HCode:=mY 1 3 2 (oq Ea) (rC 6 1 7 6 (oV 8 7 3 (.newz [.int .i64 0]) (yF 1 3 8 [])) adA)
theorem agD:bz Try.prog 85=some (c85,[2],50):=by kernel_rfl
def c86:HCode:=mf 3 (rC 4 1 5 4 (lD 6 0 7 5 6 (gK 8 7 3 (iI 8) [])) .ret)
theorem afO:bz Try.prog 86=some (c86,[3],9):=by kernel_rfl
def c87:HCode:=mf 3 (Ak (jg 4 1 5 0 (jE 6 4 5 7 6 (iR 3 7))))
theorem agF:bz Try.prog 87=some (c87,[3],8):=by kernel_rfl
def adE:HCode:=jV 3 (rC 52 1 53 52 (lD 54 4 55 53 54 (jg 56 55 57 5 (jE 58 56 57 59 58 (gG 60 (lF 59 0) 61 60 (je 62 pV 9 63 62 9 (lW 64 4 9 65 (iV 63 64) 9 (gp 66 (oL 65) 9 67 (fU 5) 9 (je 68 (iV 66 67) 9 69 68 9 (lW 70 3 9 71 (jo .geq 69 70) 9 (vM 72 61 71)))))))))) (pq 72 2)) 50 5 51 50 5 51
def afe:HCode:=jV 1 (.seq (lh (some [0,1,0,7,15,31,0,64,255]) (iD 37 1 38 37 (lD 39 4 40 38 39 (qc 41 40 42 41 (ig 43 0 1 44 43 (gz 45 (jo .neq 42 44)))))) (pq 45 2)) (IK 5 2 (fP 46 5 47 (fM 1) (gK 48 47 49 (GU 46 48) []) 49 2 adE))) 35 4 36 35 4 36
def acm:HCode:=.seq (iM 9 1 10 9 (gG 11 (lF 10 1) 12 11 (je 13 (fM 1) 3 14 13 3 (sH 15 (gU 14 64) 3 (ji 16 12 15 17 16 (lW 18 3 8 19 (lF 18 1) 8 (ji 20 17 19 21 20 (lW 22 3 12 23 (gU 22 2048) 12 (ji 24 21 23 25 24 (je 26 (lM 1) 16 27 26 16 (gp 28 (dQ 27) 16 29 (fU 3) 16 (su 30 (jo .neq 28 29) 16 31 25 30))))))))))) (pq 31 2)) (kM 4 (fP 32 4 33 (fU 3) (Gn 34 32 33) 34 0 afe) (xJ 2 o7 .ret))
def c88:HCode:=mY 1 3 2 (oq Ea) (rC 6 1 7 6 (lu 8 (dQ 7) 3 8) acm)
theorem agI:bz Try.prog 88=some (c88,[2],73):=by kernel_rfl
def adT:HCode:=jV 1 (nR 10 0 11 3 (jE 12 10 11 13 12 (gG 14 (lF 13 0) 15 14 (gp 16 pg 5 17 (fU 3) 5 (je 18 (iV 16 17) 5 19 18 5 (su 20 (gU 19 63) 5 21 15 20))))) (pq 21 2)) 8 3 9 8 3 9
def c89:HCode:=tJ 2 (kM 3 (fP 4 3 5 pg (nG 6 5 7 4 6) 7 0 adT) (jr 22 0 23 (dQ 22) (lu 24 (qM .leq 23 1024) 2 24) .ret))
theorem afC:bz Try.prog 89=some (c89,[2],25):=by kernel_rfl
def adM:HCode:=lh (some [0,1,0,7,0,16,48,112,0,256,0,1792,4080,15,16383]) (ig 11 3 4 12 11 (fZ 13 2 14 (AZ (kJ 0 12 1 13)) (fZ 15 0 16 (Aj 15) (ig 17 2 16 18 17 (ig 19 3 4 20 19 (fZ 21 2 22 (AZ (kJ 0 20 1 21)) (O1 23 (.mlook false (.ints 2) (.bool false) (.t 18) (.t 22)) 2 6 14 (oN 7 23)))))))) .ret
def aeG:HCode:=lh (some [0,1,0,4,15,0,32,96,224,0,512,0,2048,7680,16352,31,65535]) (ig 43 3 4 44 43 (fZ 45 2 46 (Az 45) (gG 47 (AZ (kJ 0 44 1 46)) 48 0 (GG 49 (Aj 48) 50 2 49 (gK 51 50 52 (Bf 3 4) (jg 53 52 54 2 (bW 55 (Az 54) 56 (AZ (kJ 0 53 1 55)) (O1 57 (.mlook false (.ints 2) (.bool false) (.t 51) (.t 56)) 2 6 47 (oN 7 57))))))))) .ret
def adH:HCode:=.seq (lh (some [0,0,2,6,14,30,63,127,255,511,1023,2047,255,8191,16383,255,33023,131071,262143]) (qO 24 2 25 0 (GG 26 (Aj 25) 27 0 26 (qc 28 27 29 28 (gG 30 (GU 24 29) 31 30 (gZ 32 (fU 0) 7 33 (Aj 32) 7 (nI 34 (fM 33) 7 35 34 7 (gZ 36 (fU 2) 7 37 (iV 35 36) 7 (oh 38 37 7 39 (fV 4) 7 (oh 40 39 7 41 (jo .eql 38 40) 7 (rH 42 31 41)))))))))) (jM 42 aeG)) (Ak (O1 58 (AZ []) 2 6 58 (gz 7 (oq Ea))))
def c99:HCode:=NW 4 4 1 6 Et (gz 7 (oq Ea)) (rM 8 4 9 8 (gz 10 (Ad 9)) (jM 10 adM) adH)
theorem agb:dU Try.prog 99=some (c99,[.c 6 true 2,.t 7],59):=by kernel_rfl
def ac5:HCode:=IV 4 (kY 6 2 0 7 (dQ 6) (lS 8) (kR 0 9 8 7 9 0 (jO 1 (qV 10 8 5 10 [] (jB 11 1 12 (qR 0) (fZ 13 5 14 (Hg 2 12 13) (nT 15 (iG 14) 16 (.callv (.t 11) (rq 15)))) (jM 16 (qV 17 5 4 17 [] .ret)))) 18 8 8 18)) (xJ 4 kz .ret))
theorem adu:bz Try.prog 100=some (ac5,[4],19):=by kernel_rfl
def acK:HCode:=mf 2 (kY 3 1 0 4 (.isn false (.t 3)) [] (jM 4 (mf 2 .ret)) (jK 5 (nX 0 []) 6 pg (uh 7 (pM 5 6) 2 7) .ret))
theorem aba:bz Try.prog 101=some (acK,[2],8):=by kernel_rfl
def abT:HCode:=lh (some [0,0,2,6,15,31,63,127,63,511,1023,63,2111,8191,16383]) (fZ 22 2 23 (fM 3) (qc 24 23 25 24 (gG 26 (GU 22 25) 27 26 (nI 28 (fM 3) 5 29 28 5 (gZ 30 (fU 2) 5 31 (iV 29 30) 5 (oh 32 31 5 33 (fV 4) 5 (oh 34 33 5 35 (jo .eql 32 34) 5 (rH 36 27 35)))))))) (qW 36 (ig 37 3 4 38 37 (fZ 39 7 40 (xq 38 39) (fZ 41 2 42 (nO 40 41) (Wj 43 42 8 43)))))
def abB:HCode:=kY 44 0 8 45 (qM .geq 44 0) (nD 46 45 (nI 47 (lM 3) 2 48 47 2 (gZ 49 (fU 8) 2 50 (iV 48 49) 2 (oh 51 50 2 52 (gI 51) 2 (rH 53 46 52))))) (jM 53 (xJ 6 kz .ret)) (qV 54 8 6 54 [] .ret)
def aeh:HCode:=xP 3 3 4 (EP 4 1) (lS 6) (iM 9 3 10 9 (oV 11 10 12 (Az 11) (oN 7 12)) (xJ 8 kz (rM 13 4 14 13 (gz 15 (Ad 14)) (vG 15 (ig 16 3 4 17 16 (fZ 18 7 19 (xq 17 18) (Nk 20 2 21 (nO 19 20) 8 21))) abT) abB)))
theorem adO:bz Try.prog 102=some (aeh,[6],55):=by kernel_rfl
def adB:HCode:=mf 4 (kY 5 0 1 6 (lF 5 0) [] (qW 6 (oU 7 .bad [Ha .bad])) (kY 8 0 1 9 pg (bW 10 (.bi .cap [] [] [(.t 9)]) 11 pg (oV 12 11 13 (jo .sub 10 12) (lu 14 (jo .sub 8 13) 1 14))) (jB 15 1 16 (gU 15 0) [] (qW 16 (jS 17 0 18 pg (bW 19 (.bi .cap [] [] [(.t 18)]) 20 (.slc 1 (.t 17) none (some (.t 19))) (fZ 21 1 22 (.bi .append [1,1] [.bool false] [(.t 20),(.t 21)]) (jS 23 0 24 (dQ 23) (uh 25 (.slc 1 (.t 22) none (some (.t 24))) 0 25))))))) (pG 26 0 4 26 [] .ret)))
theorem adQ:bz Try.prog 103=some (adB,[4],27):=by kernel_rfl
def ae7:HCode:=IV 3 (jB 4 0 5 (oL 1) (lu 6 (nO 4 5) 3 6) .ret)
theorem aeV:bz Try.prog 104=some (ae7,[3],7):=by kernel_rfl
def c105:HCode:=IV 4 (kY 6 1 0 7 (dQ 6) (lS 8) (kR 0 9 8 7 9 0 (jO 1 (qV 10 8 5 10 [] (jB 11 1 12 pg (lD 13 5 14 12 13 (gK 15 14 16 (.callv (.t 11) (rq 15)) [])) (jM 16 (qV 17 5 4 17 [] .ret)))) 18 8 8 18)) (xJ 4 kz .ret))
theorem aa2:bz Try.prog 105=some (c105,[4],19):=by kernel_rfl
def aeC:HCode:=tJ 3 (jB 4 0 5 (lF 4 0) (nD 6 5 (je 7 (fU 0) 2 8 1 2 (sH 9 (jo .geq 7 8) 2 (lu 10 (Zv 6 9) 3 10)))) .ret)
theorem ad1:bz Try.prog 106=some (aeC,[3],11):=by kernel_rfl
end Go.Proofs.Ytlbdmpjnmfmnfaa
