import Derived.Test.YtlbdmpjnmfmnfaaHl5
import Derived.Test.YtlbdmpjnmfmnfaaFsA
import Derived.Test.YtlbdmpjnmfmnfaaCodes
set_option linter.unusedSimpArgs false
set_option linter.unusedVariables false
set_option maxHeartbeats 4000000
section
namespace Go.HL
open Go.RowKit
structure Kp (q:Prop):Prop where
 o:q
theorem zA {a b:Prop} (x:a) (y:b):a/\b:=⟨x,y⟩
theorem zW {f p:Prop} (zf:f) (h:f->p:=by intro zf;exact (by simp (disch:=omega) only [dM,zf,HV.thaw,cZ,ax,aB,if_true,if_false,reduceIte,Nat.reduceEqDiff,stripL,HV.strip,qA,sS,Nat.mul_one,List.cons_append,List.nil_append,List.append_nil,I,Bl,T3,List.getD_cons_zero,List.getD_cons_succ,HL.ints_strip,HL.bools_strip,wZ];try rfl)):p:=h zf
theorem zG {p q:Prop} (zk:Kp q) (h:Kp q->p:=by intro zk;refine ⟨(by simp only [aJ,HV.refFree,dm,HV.noRd,HL.ints_noRd,HL.bools_noRd,dR,mZ,lX,l9,kE,Bool.and_true,jf,Bool.and_self,mQ,beq_self_eq_true,List.cons_append,List.nil_append]),_,_,_,_,_,zT,(by decide),lH,?_⟩;exact zk.1):p:=h zk
theorem zF {p q:Prop} (zk:Kp q) (h:Kp q->p:=by intro zk;(repeat (first|refine EY aQ rfl ?_|refine yK iJ ?_|refine au ?_|refine aH ?_|refine Ce (by rfl) (by rfl) QC ?_|refine jD ?_|refine jh (by rfl) ?_|refine bu (by rfl) ?_|refine FK (by rfl) (by rfl) ?_|refine jC ?_|refine DJ (by rfl) ?_|refine Bo (by rfl) ?_|refine Eu (by rfl) gW aU bU qi aQ ?_|refine C9 (by rfl) (by rfl) lw ?_|refine GK (by rfl) bU qi ?_|refine Gw (by rfl) (by rfl) (by omega) iJ ?_|refine BP ?_|refine wz (by rfl) aQ ?_|refine wV (by rfl) aQ ?_|refine N9 (by rfl) (by rfl) ?_|refine NE (by rfl) (by rfl) ?_|refine FV (by rfl) (by rfl) G9 ?_|refine iY (by rfl) ?_|refine QS (by rfl) (by rfl) ?_|refine JQ (by rfl) (by rfl) QC ?_|refine Ov (by rfl) aQ aU iZ (by rfl) (by decide) gW aU bU qi aU ?_|refine Jf (by rfl) aQ aU xh Hr (by rfl) (by first|exact rO|decide) (by rfl) JX aU bU qi aU uP ?_|refine FI (by rfl) (by rfl) (by omega) iJ ?_|refine yM (by rfl) ?_|refine GX iJ ?_|refine Cj iJ ay aU iZ (by rfl) (by rfl) ?_|refine EG (by rfl) bU aQ ?_|refine E8 rfl (by rfl) iJ ?_|refine He (by rfl) bU jv ?_|refine FX (by rfl) (by rfl) FH ?_|refine AY (by rfl) ?_|refine DI (by rfl) gW aU bU (by decide) jv iZ ?_|refine Gq iJ (by rfl) aQ Hw CZ (by omega) oD ?_|refine yg iJ (by rfl) aQ Hw CZ gW aU iJ (by omega) oD bU jv aU ?_|refine OG (by rfl) (by rfl) zU ?_|refine MC Np Px (by simp [qF]) ?_|refine Aw iJ aQ aU iZ (by rfl) ?_|refine BL (by rfl) (by rfl) lw ?_|refine yC (by rfl) ?_|refine MS (by rfl) (by rfl) zU ?_|refine DD aQ rfl ?_|refine H8 iJ (by rfl) (by omega) aU aU ?_|refine NH (by rfl) (by rfl) lw ?_|refine O8 (by rfl) (by rfl) yY ?_|refine Gg (by rfl) (by rfl) ?_|refine Ii (by rfl) (by rfl) ?_|refine DC iJ (by rfl) aQ Hw (by simp [mJ,oK,cellV]) gW aU iJ (by omega) oD bU jv aU (by rfl) ?_|refine Hq (by rfl) (by rfl) (by omega) lw ?_|refine OB (by rfl) (by rfl) (by omega) lw ?_|refine WN (by rfl) (by rfl) yY ?_|refine Ih iJ ay aU xh (by simp) (by rfl) (by rfl) (by rfl) ?_|refine GI (by rfl) (by rfl) (by rfl) (by omega) aU iJ jv ?_|refine FM (by rfl) (by rfl) (by rfl) (by omega) aU iJ ?_|refine Jm (by rfl) (by rfl) (by exact eY rfl) aQ ⟨rfl,rfl⟩ jv (by rfl) ?_|refine OO (by rfl) (by rfl) lw ?_|refine Yo (by rfl) (by rfl) lw ?_|refine NM (by rfl) (by rfl) lw ?_|refine OT (by rfl) (by rfl) (by omega) lw ?_|refine Oh (by rfl) (by rfl) (by omega) lw ?_|refine Nl (by rfl) (by rfl) (by first|exact ⟨rfl,rfl,rfl,rfl⟩|decide) (by (try simp (disch:=omega) only [sJ,go_sem,reduceIte]);try rfl) ?_|refine Dw (by rfl) yY ?_|refine Hu (by rfl) lw ?_|refine H9 (by rfl) lw ?_|refine Pm (by rfl) aQ Hw CZ iJ jv iZ (by omega) gW aU bU jv aU ?_|refine Pg (by rfl) bU aQ ?_|refine Gv (by rfl) bU jv ?_|refine ND iJ aQ rfl ?_|refine Gm (by rfl) ?_|refine Gl (by rfl) (by omega) ?_|refine Ig (by rfl) (by omega) ?_|refine CQ iJ ?_|refine Pi (eV rfl) aQ ⟨rfl,rfl⟩ jv (by rfl) ?_|refine PG (by rfl) aQ (by rfl) (by rfl) ?_|refine yX (by rfl) aQ aQ rY (by trivial) rY (by exact eY rfl) ⟨rfl,rfl⟩ jv aU uP ?_|refine BR (eV rfl) JU ?_|refine DF (by rfl) (by rfl) (by exact eY rfl) JU ?_|refine BX (by rfl) ?_|refine Df (eV rfl) ?_|refine zy (by rfl) (by rfl) (by exact eY rfl) ?_|refine BG (by rfl) ?_|refine xQ aQ rfl ?_));exact zk.1):p:=h zk
theorem eH {f p q:Prop} (zf:f) (zk:Kp q) (h:f->Kp q->p:=by intro zf zk;(repeat (first|refine EY aQ rfl ?_|refine yK iJ ?_|refine au ?_|refine aH ?_|refine Ce (by rfl) (by rfl) QC ?_|refine jD ?_|refine jh (by rfl) ?_|refine bu (by rfl) ?_|refine FK (by rfl) (by rfl) ?_|refine jC ?_|refine DJ (by rfl) ?_|refine Bo (by rfl) ?_|refine Eu (by rfl) gW jP bU Ep aQ ?_|refine C9 (by rfl) (by rfl) lN ?_|refine GK (by rfl) bU Ep ?_|refine Gw (by rfl) (by rfl) (by omega) iJ ?_|refine BP ?_|refine wz (by rfl) aQ ?_|refine wV (by rfl) aQ ?_|refine N9 (by rfl) (by rfl) ?_|refine NE (by rfl) (by rfl) ?_|refine FV (by rfl) (by rfl) G9 ?_|refine iY (by rfl) ?_|refine QS (by rfl) (by rfl) ?_|refine JQ (by rfl) (by rfl) QC ?_|refine Ov (by rfl) aQ aU iZ (by rfl) (by decide) gW aU bU Ep aU ?_|refine Jf (by rfl) aQ aU xh Hr (by rfl) (by first|exact rO|decide) (by rfl) JX jP bU Ep aU uP ?_|refine FI (by rfl) (by rfl) (by omega) iJ ?_|refine yM (by rfl) ?_|refine GX iJ ?_|refine Cj iJ ay aU iZ (by rfl) (by rfl) ?_|refine EG (by rfl) bU aQ ?_|refine E8 rfl (by rfl) iJ ?_|refine He (by rfl) bU jP ?_|refine FX (by rfl) (by rfl) FH ?_|refine AY (by rfl) ?_|refine DI (by rfl) gW aU bU (by decide) jP iZ ?_|refine Gq iJ (by rfl) aQ Hw JM (by omega) oD ?_|refine yg iJ (by rfl) aQ Hw JM gW jP iJ (by omega) oD bU jP aU ?_|refine OG (by rfl) (by rfl) zU ?_|refine MC Np Px (by simp [qF]) ?_|refine Aw iJ aQ aU iZ (by rfl) ?_|refine BL (by rfl) (by rfl) lN ?_|refine yC (by rfl) ?_|refine MS (by rfl) (by rfl) zU ?_|refine DD aQ rfl ?_|refine H8 iJ (by rfl) (by omega) aU aU ?_|refine NH (by rfl) (by rfl) lN ?_|refine O8 (by rfl) (by rfl) (by (try simp only [go_sem,reduceIte,zf]);try rfl) ?_|refine Gg (by rfl) (by rfl) ?_|refine Ii (by rfl) (by rfl) ?_|refine DC iJ (by rfl) aQ Hw (by simp [mJ,oK,cellV]) gW aU iJ (by omega) oD bU jP aU (by rfl) ?_|refine Hq (by rfl) (by rfl) (by omega) lN ?_|refine OB (by rfl) (by rfl) (by omega) lN ?_|refine WN (by rfl) (by rfl) (by (try simp only [go_sem,reduceIte,zf]);try rfl) ?_|refine Ih iJ ay aU xh (by simp) (by rfl) (by rfl) (by rfl) ?_|refine GI (by rfl) (by rfl) (by rfl) (by omega) aU iJ jP ?_|refine FM (by rfl) (by rfl) (by rfl) (by omega) aU iJ ?_|refine Jm (by rfl) (by rfl) (by exact eY rfl) aQ ⟨rfl,rfl⟩ jP (by rfl) ?_|refine OO (by rfl) (by rfl) lN ?_|refine Yo (by rfl) (by rfl) lN ?_|refine NM (by rfl) (by rfl) lN ?_|refine OT (by rfl) (by rfl) (by omega) lN ?_|refine Oh (by rfl) (by rfl) (by omega) lN ?_|refine Nl (by rfl) (by rfl) (by first|exact ⟨rfl,rfl,rfl,rfl⟩|decide) (by (try simp (disch:=omega) only [sJ,go_sem,reduceIte,zf]);try rfl) ?_|refine Dw (by rfl) (by (try simp only [go_sem,reduceIte,zf]);try rfl) ?_|refine Hu (by rfl) lN ?_|refine H9 (by rfl) lN ?_|refine Pm (by rfl) aQ Hw JM (by (try simp only [go_sem,reduceIte,Nat.reduceEqDiff,Nat.reduceAdd,Nat.reduceMul,zf]);try rfl) jP iZ (by omega) gW jP bU jP aU ?_|refine Pg (by rfl) bU aQ ?_|refine Gv (by rfl) bU jP ?_|refine ND iJ aQ rfl ?_|refine Gm (by rfl) ?_|refine Gl (by rfl) (by omega) ?_|refine Ig (by rfl) (by omega) ?_|refine CQ iJ ?_|refine Pi (eV rfl) aQ ⟨rfl,rfl⟩ jP (by rfl) ?_|refine PG (by rfl) aQ (by rfl) (by rfl) ?_|refine yX (by rfl) aQ aQ rY (by trivial) rY (by exact eY rfl) ⟨rfl,rfl⟩ jP aU uP ?_|refine BR (eV rfl) Sr ?_|refine DF (by rfl) (by rfl) (by exact eY rfl) Sr ?_|refine BX (by rfl) ?_|refine Df (eV rfl) ?_|refine zy (by rfl) (by rfl) (by exact eY rfl) ?_|refine BG (by rfl) ?_|refine xQ aQ rfl ?_));exact zk.1):p:=h zf zk
theorem zFN {p q:Prop} (zk:Kp q) (h:Kp q->p:=by intro zk;(repeat (first|refine aa3 (by rfl) ?_|refine EY aQ rfl ?_|refine yK iJ ?_|refine au ?_|refine aH ?_|refine Ce (by rfl) (by rfl) QC ?_|refine jD ?_|refine jh (by rfl) ?_|refine bu (by rfl) ?_|refine FK (by rfl) (by rfl) ?_|refine jC ?_|refine DJ (by rfl) ?_|refine Bo (by rfl) ?_|refine Eu (by rfl) gW aU bU qi aQ ?_|refine C9 (by rfl) (by rfl) lw ?_|refine GK (by rfl) bU qi ?_|refine Gw (by rfl) (by rfl) (by omega) iJ ?_|refine BP ?_|refine wz (by rfl) aQ ?_|refine wV (by rfl) aQ ?_|refine N9 (by rfl) (by rfl) ?_|refine NE (by rfl) (by rfl) ?_|refine FV (by rfl) (by rfl) G9 ?_|refine iY (by rfl) ?_|refine QS (by rfl) (by rfl) ?_|refine JQ (by rfl) (by rfl) QC ?_|refine Ov (by rfl) aQ aU iZ (by rfl) (by decide) gW aU bU qi aU ?_|refine Jf (by rfl) aQ aU xh Hr (by rfl) (by first|exact rO|decide) (by rfl) JX aU bU qi aU uP ?_|refine FI (by rfl) (by rfl) (by omega) iJ ?_|refine yM (by rfl) ?_|refine GX iJ ?_|refine Cj iJ ay aU iZ (by rfl) (by rfl) ?_|refine EG (by rfl) bU aQ ?_|refine He (by rfl) bU jv ?_|refine FX (by rfl) (by rfl) FH ?_|refine AY (by rfl) ?_|refine DI (by rfl) gW aU bU (by decide) jv iZ ?_|refine Gq iJ (by rfl) aQ Hw CZ (by omega) oD ?_|refine yg iJ (by rfl) aQ Hw CZ gW aU iJ (by omega) oD bU jv aU ?_|refine OG (by rfl) (by rfl) zU ?_|refine MC Np Px (by simp [qF]) ?_|refine Aw iJ aQ aU iZ (by rfl) ?_|refine BL (by rfl) (by rfl) lw ?_|refine yC (by rfl) ?_|refine MS (by rfl) (by rfl) zU ?_|refine DD aQ rfl ?_|refine H8 iJ (by rfl) (by omega) aU aU ?_|refine NH (by rfl) (by rfl) lw ?_|refine O8 (by rfl) (by rfl) yY ?_|refine Gg (by rfl) (by rfl) ?_|refine Ii (by rfl) (by rfl) ?_|refine DC iJ (by rfl) aQ Hw (by simp [mJ,oK,cellV]) gW aU iJ (by omega) oD bU jv aU (by rfl) ?_|refine Hq (by rfl) (by rfl) (by omega) lw ?_|refine OB (by rfl) (by rfl) (by omega) lw ?_|refine WN (by rfl) (by rfl) yY ?_|refine Ih iJ ay aU xh (by simp) (by rfl) (by rfl) (by rfl) ?_|refine GI (by rfl) (by rfl) (by rfl) (by omega) aU iJ jv ?_|refine FM (by rfl) (by rfl) (by rfl) (by omega) aU iJ ?_|refine Jm (by rfl) (by rfl) (by exact eY rfl) aQ ⟨rfl,rfl⟩ jv (by rfl) ?_|refine OO (by rfl) (by rfl) lw ?_|refine Yo (by rfl) (by rfl) lw ?_|refine NM (by rfl) (by rfl) lw ?_|refine OT (by rfl) (by rfl) (by omega) lw ?_|refine Oh (by rfl) (by rfl) (by omega) lw ?_|refine Nl (by rfl) (by rfl) (by first|exact ⟨rfl,rfl,rfl,rfl⟩|decide) (by (try simp (disch:=omega) only [sJ,go_sem,reduceIte]);try rfl) ?_|refine Dw (by rfl) yY ?_|refine Hu (by rfl) lw ?_|refine H9 (by rfl) lw ?_|refine Pm (by rfl) aQ Hw CZ iJ jv iZ (by omega) gW aU bU jv aU ?_|refine Pg (by rfl) bU aQ ?_|refine Gv (by rfl) bU jv ?_|refine ND iJ aQ rfl ?_|refine Gm (by rfl) ?_|refine Gl (by rfl) (by omega) ?_|refine Ig (by rfl) (by omega) ?_|refine CQ iJ ?_|refine Pi (eV rfl) aQ ⟨rfl,rfl⟩ jv (by rfl) ?_|refine PG (by rfl) aQ (by rfl) (by rfl) ?_|refine yX (by rfl) aQ aQ rY (by trivial) rY (by exact eY rfl) ⟨rfl,rfl⟩ jv aU uP ?_|refine BR (eV rfl) JU ?_|refine DF (by rfl) (by rfl) (by exact eY rfl) JU ?_|refine BX (by rfl) ?_|refine Df (eV rfl) ?_|refine zy (by rfl) (by rfl) (by exact eY rfl) ?_|refine BG (by rfl) ?_|refine xQ aQ rfl ?_));exact zk.1):p:=h zk
theorem zK {p q:Prop} (zk:Kp q) (h:Kp q->p:=by intro zk;(repeat (first|refine EY aQ rfl ?_|refine yK iJ ?_|refine Ce (by rfl) (by rfl) QC ?_|refine jD ?_|refine FK (by rfl) (by rfl) ?_|refine Bo (by rfl) ?_|refine Eu (by rfl) gW aU bU qi aQ ?_|refine C9 (by rfl) (by rfl) lw ?_|refine GK (by rfl) bU qi ?_|refine Gw (by rfl) (by rfl) (by omega) iJ ?_|refine BP ?_|refine wz (by rfl) aQ ?_|refine wV (by rfl) aQ ?_|refine FV (by rfl) (by rfl) G9 ?_|refine QS (by rfl) (by rfl) ?_|refine Ov (by rfl) aQ aU iZ (by rfl) (by decide) gW aU bU qi aU ?_|refine FI (by rfl) (by rfl) (by omega) iJ ?_|refine yM (by rfl) ?_|refine EG (by rfl) bU aQ ?_|refine FX (by rfl) (by rfl) FH ?_|refine AY (by rfl) ?_|refine yC (by rfl) ?_|refine Gg (by rfl) (by rfl) ?_|refine Ii (by rfl) (by rfl) ?_|refine Dw (by rfl) yY ?_));exact zk.1):p:=h zk
theorem zQ {p q:Prop} (zk:Kp q) (h:Kp q->p:=by intro zk;(repeat (first|refine EY aQ rfl ?_|refine yK iJ ?_|refine Ce (by rfl) (by rfl) QC ?_|refine jD ?_|refine FK (by rfl) (by rfl) ?_|refine DJ (by rfl) ?_|refine Bo (by rfl) ?_|refine Eu (by rfl) gW aU bU qi aQ ?_|refine C9 (by rfl) (by rfl) lw ?_|refine GK (by rfl) bU qi ?_|refine Gw (by rfl) (by rfl) (by omega) iJ ?_|refine BP ?_|refine wz (by rfl) aQ ?_|refine wV (by rfl) aQ ?_|refine N9 (by rfl) (by rfl) ?_|refine NE (by rfl) (by rfl) ?_|refine FV (by rfl) (by rfl) G9 ?_|refine QS (by rfl) (by rfl) ?_|refine JQ (by rfl) (by rfl) QC ?_|refine Ov (by rfl) aQ aU iZ (by rfl) (by decide) gW aU bU qi aU ?_|refine Jf (by rfl) aQ aU xh Hr (by rfl) (by first|exact rO|decide) (by rfl) JX aU bU qi aU uP ?_|refine FI (by rfl) (by rfl) (by omega) iJ ?_|refine yM (by rfl) ?_|refine GX iJ ?_|refine Cj iJ ay aU iZ (by rfl) (by rfl) ?_|refine EG (by rfl) bU aQ ?_|refine E8 rfl (by rfl) iJ ?_|refine He (by rfl) bU jv ?_|refine FX (by rfl) (by rfl) FH ?_|refine AY (by rfl) ?_|refine DI (by rfl) gW aU bU (by decide) jv iZ ?_|refine Gq iJ (by rfl) aQ Hw CZ (by omega) oD ?_|refine yg iJ (by rfl) aQ Hw CZ gW aU iJ (by omega) oD bU jv aU ?_|refine OG (by rfl) (by rfl) zU ?_|refine MC Np Px (by simp [qF]) ?_|refine Aw iJ aQ aU iZ (by rfl) ?_|refine BL (by rfl) (by rfl) lw ?_|refine yC (by rfl) ?_|refine MS (by rfl) (by rfl) zU ?_|refine DD aQ rfl ?_|refine H8 iJ (by rfl) (by omega) aU aU ?_|refine NH (by rfl) (by rfl) lw ?_|refine O8 (by rfl) (by rfl) yY ?_|refine Gg (by rfl) (by rfl) ?_|refine Ii (by rfl) (by rfl) ?_|refine DC iJ (by rfl) aQ Hw (by simp [mJ,oK,cellV]) gW aU iJ (by omega) oD bU jv aU (by rfl) ?_|refine Hq (by rfl) (by rfl) (by omega) lw ?_|refine OB (by rfl) (by rfl) (by omega) lw ?_|refine WN (by rfl) (by rfl) yY ?_|refine Ih iJ ay aU xh (by simp) (by rfl) (by rfl) (by rfl) ?_|refine GI (by rfl) (by rfl) (by rfl) (by omega) aU iJ jv ?_|refine FM (by rfl) (by rfl) (by rfl) (by omega) aU iJ ?_|refine Jm (by rfl) (by rfl) (by exact eY rfl) aQ ⟨rfl,rfl⟩ jv (by rfl) ?_|refine OO (by rfl) (by rfl) lw ?_|refine Yo (by rfl) (by rfl) lw ?_|refine NM (by rfl) (by rfl) lw ?_|refine OT (by rfl) (by rfl) (by omega) lw ?_|refine Oh (by rfl) (by rfl) (by omega) lw ?_|refine Nl (by rfl) (by rfl) (by first|exact ⟨rfl,rfl,rfl,rfl⟩|decide) (by (try simp (disch:=omega) only [sJ,go_sem,reduceIte]);try rfl) ?_|refine Dw (by rfl) yY ?_|refine Hu (by rfl) lw ?_|refine H9 (by rfl) lw ?_|refine Pm (by rfl) aQ Hw CZ iJ jv iZ (by omega) gW aU bU jv aU ?_|refine Pg (by rfl) bU aQ ?_|refine Gv (by rfl) bU jv ?_|refine ND iJ aQ rfl ?_|refine Gm (by rfl) ?_|refine Gl (by rfl) (by omega) ?_|refine Ig (by rfl) (by omega) ?_|refine CQ iJ ?_|refine Pi (eV rfl) aQ ⟨rfl,rfl⟩ jv (by rfl) ?_|refine PG (by rfl) aQ (by rfl) (by rfl) ?_|refine yX (by rfl) aQ aQ rY (by trivial) rY (by exact eY rfl) ⟨rfl,rfl⟩ jv aU uP ?_|refine BR (eV rfl) JU ?_|refine DF (by rfl) (by rfl) (by exact eY rfl) JU ?_|refine BX (by rfl) ?_|refine Df (eV rfl) ?_|refine zy (by rfl) (by rfl) (by exact eY rfl) ?_|refine BG (by rfl) ?_|refine xQ aQ rfl ?_));exact zk.1):p:=h zk
theorem Na {f p q:Prop} (zf:f) (zk:Kp q) (h:f->Kp q->p:=by intro zf zk;(repeat (first|refine EY aQ rfl ?_|refine yK iJ ?_|refine Ce (by rfl) (by rfl) QC ?_|refine jD ?_|refine FK (by rfl) (by rfl) ?_|refine DJ (by rfl) ?_|refine Bo (by rfl) ?_|refine Eu (by rfl) gW jP bU Ep aQ ?_|refine C9 (by rfl) (by rfl) lN ?_|refine GK (by rfl) bU Ep ?_|refine Gw (by rfl) (by rfl) (by omega) iJ ?_|refine BP ?_|refine wz (by rfl) aQ ?_|refine wV (by rfl) aQ ?_|refine N9 (by rfl) (by rfl) ?_|refine NE (by rfl) (by rfl) ?_|refine FV (by rfl) (by rfl) G9 ?_|refine QS (by rfl) (by rfl) ?_|refine JQ (by rfl) (by rfl) QC ?_|refine Ov (by rfl) aQ aU iZ (by rfl) (by decide) gW aU bU Ep aU ?_|refine Jf (by rfl) aQ aU xh Hr (by rfl) (by first|exact rO|decide) (by rfl) JX jP bU Ep aU uP ?_|refine FI (by rfl) (by rfl) (by omega) iJ ?_|refine yM (by rfl) ?_|refine GX iJ ?_|refine Cj iJ ay aU iZ (by rfl) (by rfl) ?_|refine EG (by rfl) bU aQ ?_|refine E8 rfl (by rfl) iJ ?_|refine He (by rfl) bU jP ?_|refine FX (by rfl) (by rfl) FH ?_|refine AY (by rfl) ?_|refine DI (by rfl) gW aU bU (by decide) jP iZ ?_|refine Gq iJ (by rfl) aQ Hw JM (by omega) oD ?_|refine yg iJ (by rfl) aQ Hw JM gW jP iJ (by omega) oD bU jP aU ?_|refine OG (by rfl) (by rfl) zU ?_|refine MC Np Px (by simp [qF]) ?_|refine Aw iJ aQ aU iZ (by rfl) ?_|refine BL (by rfl) (by rfl) lN ?_|refine yC (by rfl) ?_|refine MS (by rfl) (by rfl) zU ?_|refine DD aQ rfl ?_|refine H8 iJ (by rfl) (by omega) aU aU ?_|refine NH (by rfl) (by rfl) lN ?_|refine O8 (by rfl) (by rfl) (by (try simp only [go_sem,reduceIte,zf]);try rfl) ?_|refine Gg (by rfl) (by rfl) ?_|refine Ii (by rfl) (by rfl) ?_|refine DC iJ (by rfl) aQ Hw (by simp [mJ,oK,cellV]) gW aU iJ (by omega) oD bU jP aU (by rfl) ?_|refine Hq (by rfl) (by rfl) (by omega) lN ?_|refine OB (by rfl) (by rfl) (by omega) lN ?_|refine WN (by rfl) (by rfl) (by (try simp only [go_sem,reduceIte,zf]);try rfl) ?_|refine Ih iJ ay aU xh (by simp) (by rfl) (by rfl) (by rfl) ?_|refine GI (by rfl) (by rfl) (by rfl) (by omega) aU iJ jP ?_|refine FM (by rfl) (by rfl) (by rfl) (by omega) aU iJ ?_|refine Jm (by rfl) (by rfl) (by exact eY rfl) aQ ⟨rfl,rfl⟩ jP (by rfl) ?_|refine OO (by rfl) (by rfl) lN ?_|refine Yo (by rfl) (by rfl) lN ?_|refine NM (by rfl) (by rfl) lN ?_|refine OT (by rfl) (by rfl) (by omega) lN ?_|refine Oh (by rfl) (by rfl) (by omega) lN ?_|refine Nl (by rfl) (by rfl) (by first|exact ⟨rfl,rfl,rfl,rfl⟩|decide) (by (try simp (disch:=omega) only [sJ,go_sem,reduceIte,zf]);try rfl) ?_|refine Dw (by rfl) (by (try simp only [go_sem,reduceIte,zf]);try rfl) ?_|refine Hu (by rfl) lN ?_|refine H9 (by rfl) lN ?_|refine Pm (by rfl) aQ Hw JM (by (try simp only [go_sem,reduceIte,Nat.reduceEqDiff,Nat.reduceAdd,Nat.reduceMul,zf]);try rfl) jP iZ (by omega) gW jP bU jP aU ?_|refine Pg (by rfl) bU aQ ?_|refine Gv (by rfl) bU jP ?_|refine ND iJ aQ rfl ?_|refine Gm (by rfl) ?_|refine Gl (by rfl) (by omega) ?_|refine Ig (by rfl) (by omega) ?_|refine CQ iJ ?_|refine Pi (eV rfl) aQ ⟨rfl,rfl⟩ jP (by rfl) ?_|refine PG (by rfl) aQ (by rfl) (by rfl) ?_|refine yX (by rfl) aQ aQ rY (by trivial) rY (by exact eY rfl) ⟨rfl,rfl⟩ jP aU uP ?_|refine BR (eV rfl) Sr ?_|refine DF (by rfl) (by rfl) (by exact eY rfl) Sr ?_|refine BX (by rfl) ?_|refine Df (eV rfl) ?_|refine zy (by rfl) (by rfl) (by exact eY rfl) ?_|refine BG (by rfl) ?_|refine xQ aQ rfl ?_));exact zk.1):p:=h zf zk
theorem zL {p q:Prop} (zk:Kp q) (h:Kp q->p:=by intro zk;(repeat (first|refine EY aQ rfl ?_|refine yK iJ ?_|refine au ?_|refine aH ?_|refine Ce (by rfl) (by rfl) QC ?_|refine jD ?_|refine jh (by rfl) ?_|refine bu (by rfl) ?_|refine FK (by rfl) (by rfl) ?_|refine jC ?_|refine Bo (by rfl) ?_|refine Eu (by rfl) gW aU bU qi aQ ?_|refine C9 (by rfl) (by rfl) lw ?_|refine GK (by rfl) bU qi ?_|refine Gw (by rfl) (by rfl) (by omega) iJ ?_|refine BP ?_|refine wz (by rfl) aQ ?_|refine wV (by rfl) aQ ?_|refine FV (by rfl) (by rfl) G9 ?_|refine iY (by rfl) ?_|refine QS (by rfl) (by rfl) ?_|refine Ov (by rfl) aQ aU iZ (by rfl) (by decide) gW aU bU qi aU ?_|refine FI (by rfl) (by rfl) (by omega) iJ ?_|refine yM (by rfl) ?_|refine EG (by rfl) bU aQ ?_|refine FX (by rfl) (by rfl) FH ?_|refine AY (by rfl) ?_|refine yC (by rfl) ?_|refine Gg (by rfl) (by rfl) ?_|refine Ii (by rfl) (by rfl) ?_|refine Dw (by rfl) yY ?_));exact zk.1):p:=h zk
end Go.HL
end
section
namespace Go.Proofs.Ytlbdmpjnmfmnfaa
open Go.RowKit Go.HL Go.FS
def okA (n:Nat) (a:A):Bool:=decide (0<=a.f/\a.f<n/\0<=a.t/\a.t<n /\ -1<=a.i/\a.i<64 /\ -1<=a.o/\a.o<64)
def okF (fin:List Bool) (al:List A):Bool:=decide (1<=fin.length/\fin.length<=2048/\al.length<=8192)&&al.all (okA fin.length)
theorem zH (x:Int):HT Try.prog 72 [.int .i64 x] (fun r=>r=.bool (decide (0<=x/\x<64))):=by
 refine HT.of rfl agB (aZ rfl) ?_
 unfold c72
 simp only [aA,Nat.reduceAdd]
 by_cases h1:0<=x
 ·by_cases h2:x<64
  ·refine zF ⟨?_⟩
   refine ae ?_
   simp [bT,h1,h2]
  ·refine zF ⟨?_⟩
   refine ae ?_
   simp [bT,h1,h2]
 ·refine zF ⟨?_⟩
  refine ae ?_
  simp [bT,h1]
theorem okA_iff {n:Nat} {a:A}:okA n a=true <-> 0<=a.f/\a.f<n/\0<=a.t/\a.t<n /\ -1<=a.i/\a.i<64 /\ -1<=a.o/\a.o<64:=by simp [okA]
theorem OM {n:Nat} {al:List A} {k:Nat} (h:k<al.length):(al.take (k+1)).all (okA n)=((al.take k).all (okA n)&&okA n (al.getD k default)):=by
 rw [vV,List.all_append]
 simp [h]
theorem iQ {n:Nat} {al:List A} {k:Nat} (h:k<al.length) (h2:okA n (al.getD k default)=false):al.all (okA n)=false:=by
 rw [List.all_eq_false]
 exact ⟨al.getD k default,by rw [bH,bM h];exact gy h,by rw [h2];simp⟩
theorem yH (fin:List Bool) (al:List A) (hf:fin.length<=9223372036854775807) (ha:al.length<=9223372036854775807):HT Try.prog 26 [.agg (dE fin al)] (fun r=>r=.bool (okF fin al)):=by
 refine HT.of rfl age (aZ rfl) ?_
 unfold c26
 simp only [aA,Nat.reduceAdd,dE,fB]
 by_cases hb:1<=fin.length/\fin.length<=2048/\al.length<=8192
 ·obtain ⟨h1,h2,h3⟩:=hb
  have hd:okF fin al=al.all (okA fin.length):=by simp [okF,h1,h2,h3]
  refine zF ⟨?_⟩
  refine aI [1,3,22,23,24] (fun k:Nat=>k<=al.length/\(al.take k).all (okA fin.length)=true)
   (fun k=>⟨[(1,.pref 0 [] 0),(3,.int .i64 fin.length),(22,.sl al.length (recs aC al)),(23,.int .i64 al.length),(24,.int .i64 k)],[(0,.optr [.sl fin.length (HL.bools fin),.sl al.length (recs aC al)])],1⟩)
   (fun k=>al.length - k) 0 ⟨by omega,by simp⟩ rfl ?_
  rintro k ⟨hk,hall⟩
  by_cases hkl:k<al.length
  ·have hst:=OM (n:=fin.length) hkl
   rw [hall,jf] at hst
   by_cases f0:0<=(al.getD k default).f
   ·by_cases f1:(al.getD k default).f<fin.length
    ·by_cases t0:0<=(al.getD k default).t
     ·by_cases t1:(al.getD k default).t<fin.length
      ·refine zF ⟨?_⟩
       refine aF ay aK (zH (al.getD k default).i) ?_
       rintro _ rfl
       by_cases i0:0<=(al.getD k default).i/\(al.getD k default).i<64
       ·rw [decide_eq_true i0]
        refine zG ⟨?_⟩
        refine zF ⟨?_⟩
        refine aF ay aK (zH (al.getD k default).o) ?_
        rintro _ rfl
        by_cases o0:0<=(al.getD k default).o/\(al.getD k default).o<64
        ·rw [decide_eq_true o0]
         refine zG ⟨?_⟩
         refine zF ⟨?_⟩
         exact aP [1,3,22,23,24] (k+1) ⟨hkl,by rw [hst];simp only [okA,decide_eq_true_eq];omega⟩ (by omega) rfl
        ·rw [decide_eq_false o0]
         refine zG ⟨?_⟩
         by_cases o1:(al.getD k default).o = -1
         ·refine zF ⟨?_⟩
          exact aP [1,3,22,23,24] (k+1) ⟨hkl,by rw [hst];simp only [okA,decide_eq_true_eq];omega⟩ (by omega) rfl
         ·have hbad:okA fin.length (al.getD k default)=false:=by simp only [okA,decide_eq_false_iff_not];omega
          refine zF ⟨?_⟩
          refine ae ?_
          simp [bT,hd,iQ hkl hbad]
       ·rw [decide_eq_false i0]
        refine zG ⟨?_⟩
        by_cases i1:(al.getD k default).i = -1
        ·refine zF ⟨?_⟩
         refine aF ay aK (zH (al.getD k default).o) ?_
         rintro _ rfl
         by_cases o0:0<=(al.getD k default).o/\(al.getD k default).o<64
         ·rw [decide_eq_true o0]
          refine zG ⟨?_⟩
          refine zF ⟨?_⟩
          exact aP [1,3,22,23,24] (k+1) ⟨hkl,by rw [hst];simp only [okA,decide_eq_true_eq];omega⟩ (by omega) rfl
         ·rw [decide_eq_false o0]
          refine zG ⟨?_⟩
          by_cases o1:(al.getD k default).o = -1
          ·refine zF ⟨?_⟩
           exact aP [1,3,22,23,24] (k+1) ⟨hkl,by rw [hst];simp only [okA,decide_eq_true_eq];omega⟩ (by omega) rfl
          ·have hbad:okA fin.length (al.getD k default)=false:=by simp only [okA,decide_eq_false_iff_not];omega
           refine zF ⟨?_⟩
           refine ae ?_
           simp [bT,hd,iQ hkl hbad]
        ·have hbad:okA fin.length (al.getD k default)=false:=by simp only [okA,decide_eq_false_iff_not];omega
         refine zF ⟨?_⟩
         refine ae ?_
         simp [bT,hd,iQ hkl hbad]
      ·have hbad:okA fin.length (al.getD k default)=false:=by simp only [okA,decide_eq_false_iff_not];omega
       refine zF ⟨?_⟩
       refine ae ?_
       simp [bT,hd,iQ hkl hbad]
     ·have hbad:okA fin.length (al.getD k default)=false:=by simp only [okA,decide_eq_false_iff_not];omega
      refine zF ⟨?_⟩
      refine ae ?_
      simp [bT,hd,iQ hkl hbad]
    ·have hbad:okA fin.length (al.getD k default)=false:=by simp only [okA,decide_eq_false_iff_not];omega
     refine zF ⟨?_⟩
     refine ae ?_
     simp [bT,hd,iQ hkl hbad]
   ·have hbad:okA fin.length (al.getD k default)=false:=by simp only [okA,decide_eq_false_iff_not];omega
    refine zF ⟨?_⟩
    refine ae ?_
    simp [bT,hd,iQ hkl hbad]
  ·obtain rfl:k=al.length:=by omega
   rw [fK] at hall
   refine zF ⟨?_⟩
   refine ae ?_
   simp [bT,hd,hall]
 ·have hd:okF fin al=false:=by simp only [okF,decide_eq_false hb,JB]
  by_cases h1:1<=fin.length
  ·by_cases h2:fin.length<=2048
   ·have h3:¬ al.length<=8192:=fun h=>hb ⟨h1,h2,h⟩
    refine zF ⟨?_⟩
    refine ae ?_
    simp [bT,hd]
   ·refine zF ⟨?_⟩
    refine ae ?_
    simp [bT,hd]
  ·refine zF ⟨?_⟩
   refine ae ?_
   simp [bT,hd]
end Go.Proofs.Ytlbdmpjnmfmnfaa
end
