import Derived.Test.YteamkjblpglliaaSlAny
set_option linter.unusedSimpArgs false
set_option linter.unusedVariables false
namespace Go.Proofs.Yteamkjblpglliaa
open Go.RowKit Go.SL
abbrev iJ (l:List Nat):List Value:=l.map (fun (k:Nat)=>Value.int .i64 (k:Int))
theorem oK (l:List Nat) (k:Nat) (hk:k<l.length):(iJ l)[k]?=some (.int .i64 (l[k]:Nat)):=by simp [hk]
theorem T.rows:SliceT Try.prog 23 22 [.slice none 0 0] 24:=SliceT.mk' (.slice none 0 0) 1 Try.underlying23 (by kernel_rfl) rfl rfl
def Np (B : Nat) (w0 : World) (b go nt nl n co : Nat) (x3 x4 x5 x6 : Value) (too : List Nat) (left : List Int) (outs : List (List Nat)) (R : List jy) (f t : Nat) (c : Int) (e : Ending) (w' : World) : Prop := e = .returned (.tuple #[]) /\ ∃ (at' al' : Option Addr) (ct' cl' : Nat) (us' : List Value),
      Sat B w0 w' (blk b [.slice at' (nt+2) ct',.slice al' (nl+2) cl',.slice (some ⟨go,0,none⟩) n co,x3,x4,x5,x6] 110::row 3 1 0 (.slice at' (nt+2) ct') (nt+2) (iJ (too++[t,f]))::row 3 1 0 (.slice al' (nl+2) cl') (nl+2) (ints (left++[c,0])) ::
      row 22 1 0 (.slice (some ⟨go,0,none⟩) n co) n us'::xP 3 1 us' (((outs.set f (outs.getD f []++[nt])).set t (outs.getD t []++[nt+1])).map iJ)::R)
set_option maxHeartbeats 4000000 in
set_option maxRecDepth 100000 in
theorem add_any (B:Nat) (w0 w:World) (b go:Nat) (at_ al:Option Addr) (nt ct nl cl n co:Nat) (x3 x4 x5 x6:Value) (too:List Nat) (left:List Int) (us:List Value) (outs:List (List Nat)) (R:List jy) (f t:Nat) (c:Int)
  (hS:Sat B w0 w (blk b [.slice at_ nt ct,.slice al nl cl,.slice (some ⟨go,0,none⟩) n co,x3,x4,x5,x6] 110::row 3 1 0 (.slice at_ nt ct) nt (iJ too)::row 3 1 0 (.slice al nl cl) nl (ints left) ::
   row 22 1 0 (.slice (some ⟨go,0,none⟩) n co) n us::xP 3 1 us (outs.map iJ)::R))
  (hf:f<n) (ht:t<n) (hft:f≠t) (hnt:nt<=200000) (hnl:nl<=200000) (ho:∀l∈outs,l.length<=200000) :
  Calls Try.prog 79 #[.pointer (some ⟨b,0,none⟩),.agg #[.int .i64 f,.int .i64 t,.int .i64 c]] w (Np B w0 b go nt nl n co x3 x4 x5 x6 too left outs R f t c):=by
 have hus:us.length=n:=by have:=(hS.len 3 rfl).1;omega
 have hbl:=hS.bagLen 4 rfl
 have hol:outs.length=n:=by simp at hbl;omega
 have huf:us[f]?=some us[f]:=List.getElem?_eq_getElem _
 have hof:(outs.map iJ)[f]?=some (iJ outs[f]):=by simp [hol,hf]
 obtain ⟨af,cf,huf',_,_,hfl⟩:=hS.bagRd 4 rfl f huf hof
 have hlf:=ho _ (List.getElem_mem (by omega:f<outs.length))
 simp only [List.length_map,Nat.div_one] at huf' hfl
 have hS1:=(hS.var [.int .i64 f,.int .i64 t,.int .i64 c] 75).front
 have hbase:=hS.base
 have hnt2:=(hS.len 1 rfl).1
 simp only [List.length_map,Nat.mul_one] at hnt2
 go_enter Try.func79,Try.ntmps79
 go_wp2_with fail
 generalize hW:w.alloc _=W at *
 clear hW
 have q0:W.cell? ⟨w.heap.size,0,none⟩=some (.int .i64 f):=hS1.blkCell 0 rfl 0
 have q1:W.cell? ⟨w.heap.size,1,none⟩=some (.int .i64 t):=hS1.blkCell 0 rfl 1
 have q2:W.cell? ⟨w.heap.size,2,none⟩=some (.int .i64 c):=hS1.blkCell 0 rfl 2
 have r0:W.cell? ⟨b,0,none⟩=some (.slice at_ nt ct):=hS1.blkCell 1 rfl 0
 have r2:W.cell? ⟨b,2,none⟩=some (.slice (some ⟨go,0,none⟩) n co):=hS1.blkCell 1 rfl 2
 have r3:W.cell? ⟨go,f,none⟩=some us[f]:=hS1.cell0 4 rfl f _ huf
 have hf1:(0:Int)<=(f:Int):=by omega
 have hf2:(f:Int)<(n:Int):=by omega
 have hsz:w.heap.size<W.heap.size:=lt_of_heap (hS1.blk 0 rfl)
 have mk:∀ (V:World) (us2:List Value) (xss:List (List Value)),Sat B w0 V (blk w.heap.size [.int .i64 f,.int .i64 t,.int .i64 c] 75::blk b [.slice at_ nt ct,.slice al nl cl,.slice (some ⟨go,0,none⟩) n co,x3,x4,x5,x6] 110::row 3 1 0 (.slice at_ nt ct) nt (iJ too)::row 3 1 0 (.slice al nl cl) nl (ints left) ::
   row 22 1 0 (.slice (some ⟨go,0,none⟩) n co) n us::xP 3 1 us2 xss::R)->(fun w':World=>w'.cell? ⟨w.heap.size,0,none⟩=some (.int .i64 f)/\w'.cell? ⟨b,0,none⟩=some (.slice at_ nt ct)/\w'.cell? ⟨b,2,none⟩=some (.slice (some ⟨go,0,none⟩) n co)/\w'.cell? ⟨go,f,none⟩=some us[f]) V :=
  fun V us2 xss h=>⟨h.blkCell 0 rfl 0,h.blkCell 1 rfl 0,h.blkCell 1 rfl 2,h.cell0 4 rfl f _ huf⟩
 have S0:=mk _ _ _ hS1.drew
 replace mk:=Lib.hid mk
 replace huf:=Lib.hid huf
 replace huf':=Lib.hid huf'
 replace hof:=Lib.hid hof
 refine iV (fun w':World=>w'.cell? ⟨w.heap.size,0,none⟩=some (.int .i64 f)/\w'.cell? ⟨b,0,none⟩=some (.slice at_ nt ct)/\w'.cell? ⟨b,2,none⟩=some (.slice (some ⟨go,0,none⟩) n co)/\w'.cell? ⟨go,f,none⟩=some us[f]) 22 (by kernel_rfl) ?_
 refine aV (i:=0) (v:=?v1) rfl (by kernel_rfl) (fun _ _ _ h=>h) (by assumption) (Or.inl ⟨by rfl,?y1⟩) ?_
 case y1=>(intro wS hwS;(try dsimp only at hwS);go_simp;try rfl)
 try simp only [Act.put,List.setIfInBounds_toArray,List.set_cons_zero,List.set_cons_succ]
 refine aV (i:=1) (v:=?v2) rfl (by kernel_rfl) (fun _ _ _ h=>h) (by assumption) (Or.inl ⟨by rfl,?y2⟩) ?_
 case y2=>(intro wS hwS;(try dsimp only at hwS);go_simp;try rfl)
 try simp only [Act.put,List.setIfInBounds_toArray,List.set_cons_zero,List.set_cons_succ]
 refine aV (i:=2) (v:=?v3) rfl (by kernel_rfl) (fun _ _ _ h=>h) (by assumption) (Or.inl ⟨by rfl,?y3⟩) ?_
 case y3=>(intro wS hwS;(try dsimp only at hwS);go_simp;try rfl)
 try simp only [Act.put,List.setIfInBounds_toArray,List.set_cons_zero,List.set_cons_succ]
 refine aV (i:=3) (v:=?v4) rfl (by kernel_rfl) (fun _ _ _ h=>h) (by assumption) (Or.inl ⟨by rfl,?y4⟩) ?_
 case y4=>(intro wS hwS;(try dsimp only at hwS);go_simp;try rfl)
 try simp only [Act.put,List.setIfInBounds_toArray,List.set_cons_zero,List.set_cons_succ]
 refine aV (i:=4) (v:=?v5) rfl (by kernel_rfl) (fun _ _ _ h=>h) (by assumption) (Or.inl ⟨by rfl,?y5⟩) ?_
 case y5=>(intro wS hwS;(try dsimp only at hwS);go_simp;try rfl)
 try simp only [Act.put,List.setIfInBounds_toArray,List.set_cons_zero,List.set_cons_succ]
 refine aV (i:=5) (v:=?v6) rfl (by kernel_rfl) (fun _ _ _ h=>h) (by assumption) (Or.inl ⟨by rfl,?y6⟩) ?_
 case y6=>(intro wS hwS;(try dsimp only at hwS);go_simp;try rfl)
 try simp only [Act.put,List.setIfInBounds_toArray,List.set_cons_zero,List.set_cons_succ]
 refine aV (i:=6) (v:=?v7) rfl (by kernel_rfl) (fun _ _ _ h=>h) (by assumption) (Or.inl ⟨by rfl,?y7⟩) ?_
 case y7=>(intro wS hwS;(try dsimp only at hwS);go_simp;try rfl)
 try simp only [Act.put,List.setIfInBounds_toArray,List.set_cons_zero,List.set_cons_succ]
 refine aV (i:=7) (v:=?v8) rfl (by kernel_rfl) (fun _ _ _ h=>h) (by assumption) (Or.inl ⟨by rfl,?y8⟩) ?_
 case y8=>(intro wS hwS;(try dsimp only at hwS);go_simp;try rfl)
 try simp only [Act.put,List.setIfInBounds_toArray,List.set_cons_zero,List.set_cons_succ]
 refine aV (i:=8) (v:=?v9) rfl (by kernel_rfl) (fun _ _ _ h=>h) (by assumption) (Or.inl ⟨by rfl,?y9⟩) ?_
 case y9=>(intro wS hwS;(try dsimp only at hwS);go_simp;try rfl)
 try simp only [Act.put,List.setIfInBounds_toArray,List.set_cons_zero,List.set_cons_succ]
 refine aV (i:=9) (v:=?v10) rfl (by kernel_rfl) (fun _ _ _ h=>h) (by assumption) (Or.inl ⟨by rfl,?y10⟩) ?_
 case y10=>(intro wS hwS;(try dsimp only at hwS);go_simp;try rfl)
 try simp only [Act.put,List.setIfInBounds_toArray,List.set_cons_zero,List.set_cons_succ]
 refine aV (i:=10) (v:=?v11) rfl (by kernel_rfl) (fun _ _ _ h=>h) (by assumption) (Or.inl ⟨by rfl,?y11⟩) ?_
 case y11=>(intro wS hwS;(try dsimp only at hwS);go_simp;try rfl)
 try simp only [Act.put,List.setIfInBounds_toArray,List.set_cons_zero,List.set_cons_succ]
 refine aV (i:=11) (v:=?v12) rfl (by kernel_rfl) (fun _ _ _ h=>h) (by assumption) (Or.inl ⟨by rfl,?y12⟩) ?_
 case y12=>(intro wS hwS;(try dsimp only at hwS);go_simp;try rfl)
 try simp only [Act.put,List.setIfInBounds_toArray,List.set_cons_zero,List.set_cons_succ]
 refine aV (i:=12) (v:=?v13) rfl (by kernel_rfl) (fun _ _ _ h=>h) (by assumption) (Or.inl ⟨by rfl,?y13⟩) ?_
 case y13=>(intro wS hwS;(try dsimp only at hwS);go_simp;try rfl)
 try simp only [Act.put,List.setIfInBounds_toArray,List.set_cons_zero,List.set_cons_succ]
 refine aV (i:=13) (v:=?v14) rfl (by kernel_rfl) (fun _ _ _ h=>h) (by assumption) (Or.inl ⟨by rfl,?y14⟩) ?_
 case y14=>(intro wS hwS;(try dsimp only at hwS);go_simp;try rfl)
 try simp only [Act.put,List.setIfInBounds_toArray,List.set_cons_zero,List.set_cons_succ]
 refine aV (i:=14) (v:=?v15) rfl (by kernel_rfl) (fun _ _ _ h=>h) (by assumption) (Or.inl ⟨by rfl,?y15⟩) ?_
 case y15=>(intro wS hwS;(try dsimp only at hwS);go_simp;try rfl)
 try simp only [Act.put,List.setIfInBounds_toArray,List.set_cons_zero,List.set_cons_succ]
 refine aV (i:=15) (v:=?v16) rfl (by kernel_rfl) (fun _ _ _ h=>h) (by assumption) (Or.inl ⟨by rfl,?y16⟩) ?_
 case y16=>(intro wS hwS;(try dsimp only at hwS);go_simp;try rfl)
 try simp only [Act.put,List.setIfInBounds_toArray,List.set_cons_zero,List.set_cons_succ]
 refine aV (i:=16) (v:=?v17) rfl (by kernel_rfl) (fun _ _ _ h=>h) (by assumption) (Or.inl ⟨by rfl,?y17⟩) ?_
 case y17=>(intro wS hwS;(try dsimp only at hwS);go_simp;try rfl)
 try simp only [Act.put,List.setIfInBounds_toArray,List.set_cons_zero,List.set_cons_succ]
 refine aV (i:=17) (v:=?v18) rfl (by kernel_rfl) (fun _ _ _ h=>h) (by assumption) (Or.inl ⟨by rfl,?y18⟩) ?_
 case y18=>(intro wS hwS;(try dsimp only at hwS);go_simp;try rfl)
 try simp only [Act.put,List.setIfInBounds_toArray,List.set_cons_zero,List.set_cons_succ]
 refine aV (i:=18) (v:=?v19) rfl (by kernel_rfl) (fun _ _ _ h=>h) (by assumption) (Or.inl ⟨by rfl,?y19⟩) ?_
 case y19=>(intro wS hwS;(try dsimp only at hwS);go_simp;try rfl)
 try simp only [Act.put,List.setIfInBounds_toArray,List.set_cons_zero,List.set_cons_succ]
 refine dY (i:=19) (by kernel_rfl) rfl rfl fun K hK=>?_
 go_simp
 refine hK _ _ (.inr (mk.out _ _ _ (hS1.alloc _).drew)) ?_
 clear hK K
 refine dY (i:=20) (by kernel_rfl) rfl rfl fun K hK=>?_
 refine H9 T.ints _ _ rfl 5 (hS1.alloc _).drew rfl f outs[f].length (by simp) huf.out hof.out rfl ⟨W.heap.size,0,none⟩ 1 1 _ rfl (jg _ _ _) (by simp [Value.oneCell']) rfl (by decide) (by decide) (by omega) (by unfold maxLen;omega) ?_
 intro a1 cap1 w1 hS2
 refine hK _ _ (.inr (mk.out _ _ _ hS2)) ?_
 clear hK K
 simp only [Act.put,List.setIfInBounds_toArray,List.set_cons_zero,List.set_cons_succ]
 have S1:=mk.out _ _ _ hS2
 clear S0
 refine aV (i:=21) (v:=?v20) rfl (by kernel_rfl) (fun _ _ _ h=>h) (by assumption) (Or.inl ⟨by rfl,?y20⟩) ?_
 case y20=>(intro wS hwS;(try dsimp only at hwS);go_simp;try rfl)
 try simp only [Act.put,List.setIfInBounds_toArray,List.set_cons_zero,List.set_cons_succ]
 refine dY (i:=22) (by kernel_rfl) rfl rfl fun K hK=>?_
 refine jP 22 _ _ rfl go f rfl _ rfl rfl (by kernel_rfl) (by rw [hS2.cell0 4 rfl f _ huf.out];rfl) (hS2.rowFree0 4 rfl f (by omega)) ?_
 have hS3:=hS2.store 4 rfl (by omega) f (.slice (some a1) (outs[f].length+1) cap1)
 simp only [Nat.zero_add] at hS3
 refine hK _ _ (.inl rfl) ?_
 clear hK K
 refine lS (by kernel_rfl) ?_ _
 go_wp2_with fail
 have hV1:(us.set f (.slice (some a1) (outs[f].length+1) cap1))[t]?=some us[t]:=by rw [List.getElem?_set_ne hft];exact List.getElem?_eq_getElem _
 have hV2:((outs.map iJ).set f (iJ outs[f]++[.int .i64 nt]))[t]?=some (iJ outs[t]):=by rw [List.getElem?_set_ne hft];simp [hol,ht]
 replace hS3:Sat B w0 (w1.setCell ⟨go,f,none⟩ (.slice (some a1) (outs[f].length+1) cap1)) (blk w.heap.size [.int .i64 f,.int .i64 t,.int .i64 c] 75::blk b [.slice at_ nt ct,.slice al nl cl,.slice (some ⟨go,0,none⟩) n co,x3,x4,x5,x6] 110::row 3 1 0 (.slice at_ nt ct) nt (iJ too)::row 3 1 0 (.slice al nl cl) nl (ints left) ::
   row 22 1 0 (.slice (some ⟨go,0,none⟩) n co) n (us.set f (.slice (some a1) (outs[f].length+1) cap1))::xP 3 1 (us.set f (.slice (some a1) (outs[f].length+1) cap1)) ((outs.map iJ).set f (iJ outs[f]++[.int .i64 nt]))::R):=hS3
 clear S1 hS2 mk q0 q1 q2 r0 r2 r3
 generalize w1.setCell _ _=W2 at *
 generalize us.set f _=us1 at *
 generalize hX1:(outs.map iJ).set f _=xs1 at *
 replace hX1:=Lib.hid hX1
 obtain ⟨at2,ct2,hut',_,_,htl⟩:=hS3.bagRd 5 rfl t hV1 hV2
 have hlt:=ho _ (List.getElem_mem (by omega:t<outs.length))
 simp only [List.length_map,Nat.div_one] at hut' htl
 have ht1:(0:Int)<=(t:Int):=by omega
 have ht2:(t:Int)<(n:Int):=by omega
 have mk2:∀ (V:World) (us2:List Value) (xss:List (List Value)),Sat B w0 V (blk w.heap.size [.int .i64 f,.int .i64 t,.int .i64 c] 75::blk b [.slice at_ nt ct,.slice al nl cl,.slice (some ⟨go,0,none⟩) n co,x3,x4,x5,x6] 110::row 3 1 0 (.slice at_ nt ct) nt (iJ too)::row 3 1 0 (.slice al nl cl) nl (ints left)::row 22 1 0 (.slice (some ⟨go,0,none⟩) n co) n us1::xP 3 1 us2 xss::R)->(fun w':World=>w'.cell? ⟨w.heap.size,1,none⟩=some (.int .i64 t)/\w'.cell? ⟨b,0,none⟩=some (.slice at_ nt ct)/\w'.cell? ⟨b,2,none⟩=some (.slice (some ⟨go,0,none⟩) n co)/\w'.cell? ⟨go,t,none⟩=some us[t]) V :=
  fun V us2 xss h=>⟨h.blkCell 0 rfl 1,h.blkCell 1 rfl 0,h.blkCell 1 rfl 2,h.cell0 4 rfl t _ hV1⟩
 have S2:=mk2 _ _ _ hS3.drew
 replace mk2:=Lib.hid mk2
 replace hV1:=Lib.hid hV1
 replace hV2:=Lib.hid hV2
 replace hut':=Lib.hid hut'
 clear hf1 hf2
 have hwr:IntKind.i64.wrap ((nt:Int)+1)=(nt:Int)+1:=IntWalk.i64_in _ (by omega)
 refine iV (fun w':World=>w'.cell? ⟨w.heap.size,1,none⟩=some (.int .i64 t)/\w'.cell? ⟨b,0,none⟩=some (.slice at_ nt ct)/\w'.cell? ⟨b,2,none⟩=some (.slice (some ⟨go,0,none⟩) n co)/\w'.cell? ⟨go,t,none⟩=some us[t]) 23 (by kernel_rfl) ?_
 refine aV (i:=0) (v:=?v21) rfl (by kernel_rfl) (fun _ _ _ h=>h) (by assumption) (Or.inl ⟨by rfl,?y21⟩) ?_
 case y21=>(intro wS hwS;(try dsimp only at hwS);go_simp;try rfl)
 try simp only [Act.put,List.setIfInBounds_toArray,List.set_cons_zero,List.set_cons_succ]
 refine aV (i:=1) (v:=?v22) rfl (by kernel_rfl) (fun _ _ _ h=>h) (by assumption) (Or.inl ⟨by rfl,?y22⟩) ?_
 case y22=>(intro wS hwS;(try dsimp only at hwS);go_simp;try rfl)
 try simp only [Act.put,List.setIfInBounds_toArray,List.set_cons_zero,List.set_cons_succ]
 refine aV (i:=2) (v:=?v23) rfl (by kernel_rfl) (fun _ _ _ h=>h) (by assumption) (Or.inl ⟨by rfl,?y23⟩) ?_
 case y23=>(intro wS hwS;(try dsimp only at hwS);go_simp;try rfl)
 try simp only [Act.put,List.setIfInBounds_toArray,List.set_cons_zero,List.set_cons_succ]
 refine aV (i:=3) (v:=?v24) rfl (by kernel_rfl) (fun _ _ _ h=>h) (by assumption) (Or.inl ⟨by rfl,?y24⟩) ?_
 case y24=>(intro wS hwS;(try dsimp only at hwS);go_simp;try rfl)
 try simp only [Act.put,List.setIfInBounds_toArray,List.set_cons_zero,List.set_cons_succ]
 refine aV (i:=4) (v:=?v25) rfl (by kernel_rfl) (fun _ _ _ h=>h) (by assumption) (Or.inl ⟨by rfl,?y25⟩) ?_
 case y25=>(intro wS hwS;(try dsimp only at hwS);go_simp;try rfl)
 try simp only [Act.put,List.setIfInBounds_toArray,List.set_cons_zero,List.set_cons_succ]
 refine aV (i:=5) (v:=?v26) rfl (by kernel_rfl) (fun _ _ _ h=>h) (by assumption) (Or.inl ⟨by rfl,?y26⟩) ?_
 case y26=>(intro wS hwS;(try dsimp only at hwS);go_simp;try rfl)
 try simp only [Act.put,List.setIfInBounds_toArray,List.set_cons_zero,List.set_cons_succ]
 refine aV (i:=6) (v:=?v27) rfl (by kernel_rfl) (fun _ _ _ h=>h) (by assumption) (Or.inl ⟨by rfl,?y27⟩) ?_
 case y27=>(intro wS hwS;(try dsimp only at hwS);go_simp;try rfl)
 try simp only [Act.put,List.setIfInBounds_toArray,List.set_cons_zero,List.set_cons_succ]
 refine aV (i:=7) (v:=?v28) rfl (by kernel_rfl) (fun _ _ _ h=>h) (by assumption) (Or.inl ⟨by rfl,?y28⟩) ?_
 case y28=>(intro wS hwS;(try dsimp only at hwS);go_simp;try rfl)
 try simp only [Act.put,List.setIfInBounds_toArray,List.set_cons_zero,List.set_cons_succ]
 refine aV (i:=8) (v:=?v29) rfl (by kernel_rfl) (fun _ _ _ h=>h) (by assumption) (Or.inl ⟨by rfl,?y29⟩) ?_
 case y29=>(intro wS hwS;(try dsimp only at hwS);go_simp;try rfl)
 try simp only [Act.put,List.setIfInBounds_toArray,List.set_cons_zero,List.set_cons_succ]
 refine aV (i:=9) (v:=?v30) rfl (by kernel_rfl) (fun _ _ _ h=>h) (by assumption) (Or.inl ⟨by rfl,?y30⟩) ?_
 case y30=>(intro wS hwS;(try dsimp only at hwS);go_simp;try rfl)
 try simp only [Act.put,List.setIfInBounds_toArray,List.set_cons_zero,List.set_cons_succ]
 refine aV (i:=10) (v:=?v31) rfl (by kernel_rfl) (fun _ _ _ h=>h) (by assumption) (Or.inl ⟨by rfl,?y31⟩) ?_
 case y31=>(intro wS hwS;(try dsimp only at hwS);go_simp;try rfl)
 try simp only [Act.put,List.setIfInBounds_toArray,List.set_cons_zero,List.set_cons_succ]
 refine aV (i:=11) (v:=?v32) rfl (by kernel_rfl) (fun _ _ _ h=>h) (by assumption) (Or.inl ⟨by rfl,?y32⟩) ?_
 case y32=>(intro wS hwS;(try dsimp only at hwS);go_simp;try rfl)
 try simp only [Act.put,List.setIfInBounds_toArray,List.set_cons_zero,List.set_cons_succ]
 refine aV (i:=12) (v:=?v33) rfl (by kernel_rfl) (fun _ _ _ h=>h) (by assumption) (Or.inl ⟨by rfl,?y33⟩) ?_
 case y33=>(intro wS hwS;(try dsimp only at hwS);go_simp;try rfl)
 try simp only [Act.put,List.setIfInBounds_toArray,List.set_cons_zero,List.set_cons_succ]
 refine aV (i:=13) (v:=?v34) rfl (by kernel_rfl) (fun _ _ _ h=>h) (by assumption) (Or.inl ⟨by rfl,?y34⟩) ?_
 case y34=>(intro wS hwS;(try dsimp only at hwS);go_simp;try rfl)
 try simp only [Act.put,List.setIfInBounds_toArray,List.set_cons_zero,List.set_cons_succ]
 refine aV (i:=14) (v:=?v35) rfl (by kernel_rfl) (fun _ _ _ h=>h) (by assumption) (Or.inl ⟨by rfl,?y35⟩) ?_
 case y35=>(intro wS hwS;(try dsimp only at hwS);go_simp;try rfl)
 try simp only [Act.put,List.setIfInBounds_toArray,List.set_cons_zero,List.set_cons_succ]
 refine aV (i:=15) (v:=?v36) rfl (by kernel_rfl) (fun _ _ _ h=>h) (by assumption) (Or.inl ⟨by rfl,?y36⟩) ?_
 case y36=>(intro wS hwS;(try dsimp only at hwS);go_simp;try rfl)
 try simp only [Act.put,List.setIfInBounds_toArray,List.set_cons_zero,List.set_cons_succ]
 refine aV (i:=16) (v:=?v37) rfl (by kernel_rfl) (fun _ _ _ h=>h) (by assumption) (Or.inl ⟨by rfl,?y37⟩) ?_
 case y37=>(intro wS hwS;(try dsimp only at hwS);go_simp;try rfl)
 try simp only [Act.put,List.setIfInBounds_toArray,List.set_cons_zero,List.set_cons_succ]
 refine aV (i:=17) (v:=?v38) rfl (by kernel_rfl) (fun _ _ _ h=>h) (by assumption) (Or.inl ⟨by rfl,?y38⟩) ?_
 case y38=>(intro wS hwS;(try dsimp only at hwS);go_simp;try rfl)
 try simp only [Act.put,List.setIfInBounds_toArray,List.set_cons_zero,List.set_cons_succ]
 refine aV (i:=18) (v:=?v39) rfl (by kernel_rfl) (fun _ _ _ h=>h) (by assumption) (Or.inl ⟨by rfl,?y39⟩) ?_
 case y39=>(intro wS hwS;(try dsimp only at hwS);go_simp;try rfl)
 try simp only [Act.put,List.setIfInBounds_toArray,List.set_cons_zero,List.set_cons_succ]
 refine aV (i:=19) (v:=?v40) rfl (by kernel_rfl) (fun _ _ _ h=>h) (by assumption) (Or.inl ⟨by rfl,?y40⟩) ?_
 case y40=>(intro wS hwS;(try dsimp only at hwS);go_simp;try rfl)
 try simp only [Act.put,List.setIfInBounds_toArray,List.set_cons_zero,List.set_cons_succ]
 refine dY (i:=20) (by kernel_rfl) rfl rfl fun K hK=>?_
 go_simp
 refine hK _ _ (.inr (mk2.out _ _ _ (hS3.alloc _).drew)) ?_
 clear hK K
 refine dY (i:=21) (by kernel_rfl) rfl rfl fun K hK=>?_
 refine H9 T.ints _ _ rfl 5 (hS3.alloc _).drew rfl t outs[t].length (by simp) hV1.out hV2.out rfl ⟨W2.heap.size,0,none⟩ 1 1 _ rfl (jg _ _ _) (by simp [Value.oneCell']) rfl (by decide) (by decide) (by omega) (by unfold maxLen;omega) ?_
 intro a2 cap2 w2 hS4
 refine hK _ _ (.inr (mk2.out _ _ _ hS4)) ?_
 clear hK K
 simp only [Act.put,List.setIfInBounds_toArray,List.set_cons_zero,List.set_cons_succ]
 have S3:=mk2.out _ _ _ hS4
 clear S2
 refine aV (i:=22) (v:=?v41) rfl (by kernel_rfl) (fun _ _ _ h=>h) (by assumption) (Or.inl ⟨by rfl,?y41⟩) ?_
 case y41=>(intro wS hwS;(try dsimp only at hwS);go_simp;try rfl)
 try simp only [Act.put,List.setIfInBounds_toArray,List.set_cons_zero,List.set_cons_succ]
 refine dY (i:=23) (by kernel_rfl) rfl rfl fun K hK=>?_
 have hl1:=hS4.len 4 rfl
 refine jP 22 _ _ rfl go t rfl _ rfl rfl (by kernel_rfl) (by rw [hS4.cell0 4 rfl t _ hV1.out];rfl) (hS4.rowFree0 4 rfl t (by omega)) ?_
 have hS5:=hS4.store 4 rfl (by omega) t (.slice (some a2) (outs[t].length+1) cap2)
 simp only [Nat.zero_add] at hS5
 refine hK _ _ (.inl rfl) ?_
 clear hK K
 refine lS (by kernel_rfl) ?_ _
 go_wp2_with fail
 replace hS5:Sat B w0 (w2.setCell ⟨go,t,none⟩ (.slice (some a2) (outs[t].length+1) cap2)) (blk w.heap.size [.int .i64 f,.int .i64 t,.int .i64 c] 75::blk b [.slice at_ nt ct,.slice al nl cl,.slice (some ⟨go,0,none⟩) n co,x3,x4,x5,x6] 110::row 3 1 0 (.slice at_ nt ct) nt (iJ too)::row 3 1 0 (.slice al nl cl) nl (ints left)::row 22 1 0 (.slice (some ⟨go,0,none⟩) n co) n (us1.set t (.slice (some a2) (outs[t].length+1) cap2))::xP 3 1 (us1.set t (.slice (some a2) (outs[t].length+1) cap2)) (xs1.set t (iJ outs[t]++[.int .i64 (nt+1)]))::R):=hS5
 clear S3 hS4 mk2 hS3 hwr
 generalize w2.setCell _ _=W3 at *
 generalize us1.set t _=us2 at *
 generalize hX2:xs1.set t _=xs2 at *
 replace hX2:=Lib.hid hX2
 clear hV1 hV2
 have mk3:∀ (V:World) (to2:Nat) (u:Value),Sat B w0 V (blk w.heap.size [.int .i64 f,.int .i64 t,.int .i64 c] 75::blk b [.slice at_ nt ct,.slice al nl cl,.slice (some ⟨go,0,none⟩) n co,x3,x4,x5,x6] 110::row 3 1 0 u (nt+to2) (iJ too++if to2=0 then [] else [.int .i64 t,.int .i64 f])::row 3 1 0 (.slice al nl cl) nl (ints left)::row 22 1 0 (.slice (some ⟨go,0,none⟩) n co) n us2::xP 3 1 us2 xs2::R)->(fun w':World=>w'.cell? ⟨w.heap.size,0,none⟩=some (.int .i64 f)/\w'.cell? ⟨w.heap.size,1,none⟩=some (.int .i64 t)/\w'.cell? ⟨b,0,none⟩=some (.slice at_ nt ct)) V :=
  fun V _ _ h=>⟨h.blkCell 0 rfl 0,h.blkCell 0 rfl 1,h.blkCell 1 rfl 0⟩
 replace hS5:Sat B w0 W3 (blk w.heap.size [.int .i64 f,.int .i64 t,.int .i64 c] 75::blk b [.slice at_ nt ct,.slice al nl cl,.slice (some ⟨go,0,none⟩) n co,x3,x4,x5,x6] 110::row 3 1 0 (.slice at_ nt ct) (nt+0) (iJ too++if (0:Nat)=0 then [] else [.int .i64 t,.int .i64 f])::row 3 1 0 (.slice al nl cl) nl (ints left)::row 22 1 0 (.slice (some ⟨go,0,none⟩) n co) n us2::xP 3 1 us2 xs2::R):=by simpa using hS5
 have S4:=mk3 _ _ _ hS5.drew
 replace mk3:=Lib.hid mk3
 refine iV (fun w':World=>w'.cell? ⟨w.heap.size,0,none⟩=some (.int .i64 f)/\w'.cell? ⟨w.heap.size,1,none⟩=some (.int .i64 t)/\w'.cell? ⟨b,0,none⟩=some (.slice at_ nt ct)) 13 (by kernel_rfl) ?_
 refine aV (i:=0) (v:=?v42) rfl (by kernel_rfl) (fun _ _ _ h=>h) (by assumption) (Or.inl ⟨by rfl,?y42⟩) ?_
 case y42=>(intro wS hwS;(try dsimp only at hwS);go_simp;try rfl)
 try simp only [Act.put,List.setIfInBounds_toArray,List.set_cons_zero,List.set_cons_succ]
 refine aV (i:=1) (v:=?v43) rfl (by kernel_rfl) (fun _ _ _ h=>h) (by assumption) (Or.inl ⟨by rfl,?y43⟩) ?_
 case y43=>(intro wS hwS;(try dsimp only at hwS);go_simp;try rfl)
 try simp only [Act.put,List.setIfInBounds_toArray,List.set_cons_zero,List.set_cons_succ]
 refine aV (i:=2) (v:=?v44) rfl (by kernel_rfl) (fun _ _ _ h=>h) (by assumption) (Or.inl ⟨by rfl,?y44⟩) ?_
 case y44=>(intro wS hwS;(try dsimp only at hwS);go_simp;try rfl)
 try simp only [Act.put,List.setIfInBounds_toArray,List.set_cons_zero,List.set_cons_succ]
 refine aV (i:=3) (v:=?v45) rfl (by kernel_rfl) (fun _ _ _ h=>h) (by assumption) (Or.inl ⟨by rfl,?y45⟩) ?_
 case y45=>(intro wS hwS;(try dsimp only at hwS);go_simp;try rfl)
 try simp only [Act.put,List.setIfInBounds_toArray,List.set_cons_zero,List.set_cons_succ]
 refine aV (i:=4) (v:=?v46) rfl (by kernel_rfl) (fun _ _ _ h=>h) (by assumption) (Or.inl ⟨by rfl,?y46⟩) ?_
 case y46=>(intro wS hwS;(try dsimp only at hwS);go_simp;try rfl)
 try simp only [Act.put,List.setIfInBounds_toArray,List.set_cons_zero,List.set_cons_succ]
 refine aV (i:=5) (v:=?v47) rfl (by kernel_rfl) (fun _ _ _ h=>h) (by assumption) (Or.inl ⟨by rfl,?y47⟩) ?_
 case y47=>(intro wS hwS;(try dsimp only at hwS);go_simp;try rfl)
 try simp only [Act.put,List.setIfInBounds_toArray,List.set_cons_zero,List.set_cons_succ]
 refine aV (i:=6) (v:=?v48) rfl (by kernel_rfl) (fun _ _ _ h=>h) (by assumption) (Or.inl ⟨by rfl,?y48⟩) ?_
 case y48=>(intro wS hwS;(try dsimp only at hwS);go_simp;try rfl)
 try simp only [Act.put,List.setIfInBounds_toArray,List.set_cons_zero,List.set_cons_succ]
 refine aV (i:=7) (v:=?v49) rfl (by kernel_rfl) (fun _ _ _ h=>h) (by assumption) (Or.inl ⟨by rfl,?y49⟩) ?_
 case y49=>(intro wS hwS;(try dsimp only at hwS);go_simp;try rfl)
 try simp only [Act.put,List.setIfInBounds_toArray,List.set_cons_zero,List.set_cons_succ]
 refine aV (i:=8) (v:=?v50) rfl (by kernel_rfl) (fun _ _ _ h=>h) (by assumption) (Or.inl ⟨by rfl,?y50⟩) ?_
 case y50=>(intro wS hwS;(try dsimp only at hwS);go_simp;try rfl)
 try simp only [Act.put,List.setIfInBounds_toArray,List.set_cons_zero,List.set_cons_succ]
 refine dY (i:=9) (by kernel_rfl) rfl rfl fun K hK=>?_
 go_simp
 refine hK _ _ (.inr (mk3.out _ _ _ (hS5.alloc _).drew)) ?_
 clear hK K
 refine dY (i:=10) (by kernel_rfl) rfl rfl fun K hK=>?_
 refine kz T.ints _ _ rfl 2 0 _ (nt+0) (iJ too++if (0:Nat)=0 then [] else [.int .i64 t,.int .i64 f]) rfl (hS5.alloc _).drew rfl ⟨W3.heap.size,0,none⟩ 2 2 [.int .i64 t,.int .i64 f] rfl (jg _ _ _) (by simp [Value.oneCell']) rfl (by decide) (by decide) (by omega) (by unfold maxLen;omega) ?_
 intro a3 off3 cap3 w3 hoff hS6
 obtain rfl:=hoff rfl
 have hS6':Sat B w0 w3 (blk w.heap.size [.int .i64 f,.int .i64 t,.int .i64 c] 75::blk b [.slice at_ nt ct,.slice al nl cl,.slice (some ⟨go,0,none⟩) n co,x3,x4,x5,x6] 110::row 3 1 0 (.slice (some a3) (nt+2) cap3) (nt+2) (iJ too++if (2:Nat)=0 then [] else [.int .i64 t,.int .i64 f])::row 3 1 0 (.slice al nl cl) nl (ints left)::row 22 1 0 (.slice (some ⟨go,0,none⟩) n co) n us2::xP 3 1 us2 xs2::R):=by simpa using hS6
 refine hK _ _ (.inr (mk3.out _ _ _ hS6')) ?_
 clear hK K
 simp only [Act.put,List.setIfInBounds_toArray,List.set_cons_zero,List.set_cons_succ]
 have S5:=mk3.out _ _ _ hS6'
 clear S4
 refine dY (i:=11) (by kernel_rfl) rfl rfl fun K hK=>?_
 go_simp
 refine hK _ _ (.inr (by assumption)) ?_
 clear hK K
 refine dY (i:=12) (by kernel_rfl) rfl rfl fun K hK=>?_
 go_simp
 refine hK _ _ (.inr (by assumption)) ?_
 clear hK K
 refine dY (i:=13) (by kernel_rfl) rfl rfl fun K hK=>?_
 refine jP 22 _ _ rfl b 0 rfl _ rfl rfl (by kernel_rfl) (by rw [hS6'.blkCell 1 rfl 0];rfl) (hS6'.blkFree 1 rfl 0) ?_
 have hS7:=hS6'.storeBlk 1 rfl 0 (.slice (some a3) (nt+2) cap3)
 refine hK _ _ (.inl rfl) ?_
 clear hK K
 refine lS (by kernel_rfl) ?_ _
 go_wp2_with fail
 replace hS7:Sat B w0 (w3.setCell ⟨b,0,none⟩ (.slice (some a3) (nt+2) cap3)) (blk w.heap.size [.int .i64 f,.int .i64 t,.int .i64 c] 75::blk b [.slice (some a3) (nt+2) cap3,.slice al nl cl,.slice (some ⟨go,0,none⟩) n co,x3,x4,x5,x6] 110::row 3 1 0 (.slice (some a3) (nt+2) cap3) (nt+2) (iJ (too++[t,f]))::row 3 1 0 (.slice al nl cl) nl (ints left)::row 22 1 0 (.slice (some ⟨go,0,none⟩) n co) n us2::xP 3 1 us2 xs2::R):=by simpa using hS7
 clear S5 hS6' mk3
 generalize w3.setCell _ _=W4 at *
 have mk4:∀ (V:World) (u:Value) (n2:Nat) (ys:List Value),Sat B w0 V (blk w.heap.size [.int .i64 f,.int .i64 t,.int .i64 c] 75::blk b [.slice (some a3) (nt+2) cap3,.slice al nl cl,.slice (some ⟨go,0,none⟩) n co,x3,x4,x5,x6] 110::row 3 1 0 (.slice (some a3) (nt+2) cap3) (nt+2) (iJ (too++[t,f]))::row 3 1 0 u n2 ys::row 22 1 0 (.slice (some ⟨go,0,none⟩) n co) n us2::xP 3 1 us2 xs2::R)->(fun w':World=>w'.cell? ⟨w.heap.size,2,none⟩=some (.int .i64 c)/\w'.cell? ⟨b,1,none⟩=some (.slice al nl cl)) V :=
  fun V _ _ _ h=>⟨h.blkCell 0 rfl 2,h.blkCell 1 rfl 1⟩
 have S6:=mk4 _ _ _ _ hS7.drew
 replace mk4:=Lib.hid mk4
 refine iV (fun w':World=>w'.cell? ⟨w.heap.size,2,none⟩=some (.int .i64 c)/\w'.cell? ⟨b,1,none⟩=some (.slice al nl cl)) 11 (by kernel_rfl) ?_
 refine aV (i:=0) (v:=?v51) rfl (by kernel_rfl) (fun _ _ _ h=>h) (by assumption) (Or.inl ⟨by rfl,?y51⟩) ?_
 case y51=>(intro wS hwS;(try dsimp only at hwS);go_simp;try rfl)
 try simp only [Act.put,List.setIfInBounds_toArray,List.set_cons_zero,List.set_cons_succ]
 refine aV (i:=1) (v:=?v52) rfl (by kernel_rfl) (fun _ _ _ h=>h) (by assumption) (Or.inl ⟨by rfl,?y52⟩) ?_
 case y52=>(intro wS hwS;(try dsimp only at hwS);go_simp;try rfl)
 try simp only [Act.put,List.setIfInBounds_toArray,List.set_cons_zero,List.set_cons_succ]
 refine aV (i:=2) (v:=?v53) rfl (by kernel_rfl) (fun _ _ _ h=>h) (by assumption) (Or.inl ⟨by rfl,?y53⟩) ?_
 case y53=>(intro wS hwS;(try dsimp only at hwS);go_simp;try rfl)
 try simp only [Act.put,List.setIfInBounds_toArray,List.set_cons_zero,List.set_cons_succ]
 refine aV (i:=3) (v:=?v54) rfl (by kernel_rfl) (fun _ _ _ h=>h) (by assumption) (Or.inl ⟨by rfl,?y54⟩) ?_
 case y54=>(intro wS hwS;(try dsimp only at hwS);go_simp;try rfl)
 try simp only [Act.put,List.setIfInBounds_toArray,List.set_cons_zero,List.set_cons_succ]
 refine aV (i:=4) (v:=?v55) rfl (by kernel_rfl) (fun _ _ _ h=>h) (by assumption) (Or.inl ⟨by rfl,?y55⟩) ?_
 case y55=>(intro wS hwS;(try dsimp only at hwS);go_simp;try rfl)
 try simp only [Act.put,List.setIfInBounds_toArray,List.set_cons_zero,List.set_cons_succ]
 refine aV (i:=5) (v:=?v56) rfl (by kernel_rfl) (fun _ _ _ h=>h) (by assumption) (Or.inl ⟨by rfl,?y56⟩) ?_
 case y56=>(intro wS hwS;(try dsimp only at hwS);go_simp;try rfl)
 try simp only [Act.put,List.setIfInBounds_toArray,List.set_cons_zero,List.set_cons_succ]
 refine aV (i:=6) (v:=?v57) rfl (by kernel_rfl) (fun _ _ _ h=>h) (by assumption) (Or.inl ⟨by rfl,?y57⟩) ?_
 case y57=>(intro wS hwS;(try dsimp only at hwS);go_simp;try rfl)
 try simp only [Act.put,List.setIfInBounds_toArray,List.set_cons_zero,List.set_cons_succ]
 refine dY (i:=7) (by kernel_rfl) rfl rfl fun K hK=>?_
 go_simp
 refine hK _ _ (.inr (mk4.out _ _ _ _ (hS7.alloc _).drew)) ?_
 clear hK K
 refine dY (i:=8) (by kernel_rfl) rfl rfl fun K hK=>?_
 refine kz T.ints _ _ rfl 3 0 _ nl (ints left) rfl (hS7.alloc _).drew rfl ⟨W4.heap.size,0,none⟩ 2 2 [.int .i64 c,.int .i64 0] rfl (jg _ _ _) (by simp [Value.oneCell']) rfl (by decide) (by decide) (by omega) (by unfold maxLen;omega) ?_
 intro a4 off4 cap4 w4 hoff hS8
 obtain rfl:=hoff rfl
 refine hK _ _ (.inr (mk4.out _ _ _ _ hS8)) ?_
 clear hK K
 simp only [Act.put,List.setIfInBounds_toArray,List.set_cons_zero,List.set_cons_succ]
 have S7:=mk4.out _ _ _ _ hS8
 clear S6
 refine dY (i:=9) (by kernel_rfl) rfl rfl fun K hK=>?_
 go_simp
 refine hK _ _ (.inr (by assumption)) ?_
 clear hK K
 refine dY (i:=10) (by kernel_rfl) rfl rfl fun K hK=>?_
 go_simp
 refine hK _ _ (.inr (by assumption)) ?_
 clear hK K
 refine dY (i:=11) (by kernel_rfl) rfl rfl fun K hK=>?_
 refine jP 22 _ _ rfl b 1 rfl _ rfl rfl (by kernel_rfl) (by rw [hS8.blkCell 1 rfl 1];rfl) (hS8.blkFree 1 rfl 1) ?_
 have hS9:=hS8.storeBlk 1 rfl 1 (.slice (some a4) (nl+2) cap4)
 refine hK _ _ (.inl rfl) ?_
 clear hK K
 refine lS (by kernel_rfl) ?_ _
 go_wp2_with fail
 go_end0
 refine ⟨rfl,some a3,some a4,cap3,cap4,us2,?_⟩
 have hfin:xs2=((outs.set f (outs.getD f []++[nt])).set t (outs.getD t []++[nt+1])).map iJ:=by
  rw [<- hX2.out,<- hX1.out,List.map_set,List.map_set,getD_lt outs [] (by omega:f<outs.length),getD_lt outs [] (by omega:t<outs.length)]
  simp
 rw [<- hfin]
 have:=hS9.tail
 simpa using this
end Go.Proofs.Yteamkjblpglliaa
