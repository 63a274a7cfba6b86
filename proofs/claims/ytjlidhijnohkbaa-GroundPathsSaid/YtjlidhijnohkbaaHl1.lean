import Derived.WalkKit
import Derived.Handy
import Derived.Deep.MidRow
import Derived.ArgAppend
import Derived.Lib.Hide
import Derived.Deep.AppendSrc
import Derived.Laws.MakeOwn
set_option linter.unusedSimpArgs false
set_option linter.unusedVariables false
section
namespace Go.HL
abbrev aG:=@Bool.and_eq_true
abbrev zl001:=@List.mem_append
abbrev dW:=@List.getD_eq_getElem?_getD
abbrev dS:=@List.getElem?_eq_getElem
abbrev fG:=@List.eq_nil_of_length_eq_zero
abbrev aP:=@Nat.le_refl
abbrev bY:=@Option.some.injEq
abbrev zl007:=@List.nodup_append
abbrev zl008:=@List.mem_cons
abbrev iw:=@Array.getD_eq_getD_getElem?
abbrev gZ:=@Nat.le_of_ble_eq_true
abbrev jv:=@Array.getElem?_eq_getElem
abbrev dL:=@Nat.lt_or_ge
abbrev jb:=@List.getElem?_eq_none
abbrev zl014:=@List.all_eq_true
abbrev gB:=@List.length_take
abbrev fK:=@List.length_map
abbrev gV:=@Option.getD_some
abbrev iT:=@List.getElem?_map
abbrev zl019:=@List.mem_singleton
abbrev iq:=@Option.map_some
abbrev kz:=@Array.getElem?_toList
abbrev zl022:=@Array.getElem?_eq_some_iff
abbrev zl023:=@List.mem_map
abbrev kL:=@List.length_append
abbrev iy:=@List.map_cons
abbrev mW:=@List.take_of_length_le
abbrev zl027:=@List.nodup_cons
abbrev kM:=@Nat.lt_of_lt_of_le
abbrev iG:=@List.map_map
abbrev zl030:=@List.getElem?_eq_some_iff
abbrev nG:=@List.mem_cons_of_mem
abbrev gX:=@Nat.zero_le
abbrev lV:=@List.take_length
abbrev zl034:=@List.mem_range
abbrev lT:=@List.length_drop
abbrev jI:=@Nat.add_comm
abbrev oP:=@Array.length_toList
abbrev kD:=@Prod.mk.injEq
abbrev zl039:=@List.eq_nil_iff_forall_not_mem
abbrev oO:=@List.getElem?_take
abbrev o7:=@List.ext_getElem?
abbrev uj:=@Array.getElem?_eq_none
abbrev Nq:=@Classical.byContradiction
abbrev nR:=@List.drop_drop
abbrev qc:=@List.isEmpty_iff
abbrev Ad:=@List.length_singleton
abbrev uu:=@Bool.not_eq_true'
abbrev Iu:=@List.getElem?_take_of_lt
abbrev yc:=@List.take_append_drop
abbrev zN:=@List.mem_of_mem_take
abbrev vY:=@List.append_assoc
abbrev uy:=@Bool.or_eq_true
abbrev xH:=@List.getElem?_drop
abbrev vX:=@Nat.le_of_not_lt
abbrev vV:=@Nat.lt_succ_self
abbrev zl056:=@List.filter_eq_self
abbrev qy:=@Nat.add_mul
abbrev Cj:=@List.drop_of_length_le
abbrev BO:=@Nat.testBit_lt_two_pow
abbrev uw:=@Nat.add_assoc
abbrev I5:=@List.take_succ_eq_append_getElem
abbrev FU:=@List.getElem?_append_left
abbrev BL:=@Nat.mul_le_mul_right
abbrev Bi:=@List.getElem?_set_ne
abbrev CV:=@Nat.pow_le_pow_right
abbrev zl066:=@Array.mem_toList_iff
abbrev A8:=@List.range_eq_range'
abbrev BJ:=@List.map_congr_left
abbrev Cf:=@List.replicate_succ
abbrev yP:=@List.not_mem_nil
abbrev qV:=@Array.ext'
abbrev zl072:=@List.pairwise_cons
abbrev BV:=@List.mem_cons_self
abbrev ML:=@Classical.choose_spec
abbrev xX:=@List.all_cons
abbrev IL:=@Array.getElem?_append_left
abbrev zl077:=@List.mem_range'_1
abbrev Ja:=@List.drop_eq_getElem_cons
abbrev zl079:=@List.pairwise_iff_getElem
abbrev Fh:=@List.mem_of_mem_drop
abbrev BM:=@List.take_take
abbrev Bq:=@List.getElem_mem
abbrev BK:=@List.ext_getElem
abbrev Q3:=@Nat.mod_eq_of_lt
abbrev xy:=@Nat.le_trans
abbrev zl086:=@List.mem_flatMap
abbrev Df:=@Option.bind_some
abbrev C9:=@List.range'_succ
abbrev Gg:=@List.getElem_of_mem
abbrev NK:=@Array.getElem?_setIfInBounds_ne
abbrev EF:=@List.getElem_range
abbrev AU:=@Nat.not_lt_zero
abbrev Cc:=@Nat.zero_lt_one
abbrev zl094:=@List.mem_filter
abbrev LD:=@List.take_append_of_le_length
abbrev I9:=@List.set_append_right
abbrev Gh:=@List.getElem_map
inductive KK where
 | int (k:IntKind)
 | str
 | ints (n:Nat)
 deriving Inhabited,DecidableEq
structure MK where
 kind:KK
 pin:Option (Nat×List Nat×Nat):=none
 deriving Inhabited
inductive HV where
 | int (k:IntKind) (n:Int)
 | bool (b:Bool)
 | str (s:ByteArray)
 | nils
 | nilp
 | nilf
 | sl (n:Nat) (cs:List HV)
 | osl (sz n:Nat) (cs:List HV)
 | ptr (cs:List HV) (off:Nat)
 | optr (cs:List HV)
 | agg (cs:List HV)
 | tup (cs:List HV)
 | fn (f:FuncId) (cap:List HV)
 | ref (id:Nat) (path:List Nat) (sz off n:Nat)
 | pref (id:Nat) (path:List Nat) (off:Nat)
 | dead
 | nilm
 | rmap (m:MK) (ks cs:List HV)
 | omap (m:MK) (ks cs:List HV)
 | mref (id:Nat) (path:List Nat)
 | oitr (b since:Nat) (seen:List Nat) (last:Nat)
 deriving Inhabited
inductive HX where
 | t (i:Nat)
 | c (v:HV)
 deriving Inhabited
inductive HOp (α:Type) where
 | mv (nz:Nat) (x:α)
 | pick (c a b:α)
 | bin (op:BinOp) (x y:α)
 | beq (ne:Bool) (x y:α)
 | aeq (ne:Bool) (n:Nat) (x y:α)
 | un (op:UnOp) (x:α)
 | conv (k:IntKind) (x:α)
 | newv (sz:Nat) (x:α)
 | newz (zs:List HV)
 | bld (zs:List HV) (ps:List (Nat×Nat×α))
 | bsl (sz n:Nat) (xs:List α)
 | load (a:Bool) (sz:Nat) (x:α)
 | store (flat:Bool) (sz:Nat) (x y:α)
 | nilck (x:α)
 | mkfn (f:FuncId) (cap:List α)
 | mksl (sz bytes:Nat) (z:List HV) (l:α)
 | slc (sz:Nat) (x:α) (lo hi:Option α)
 | faddr (off:Nat) (x:α)
 | fld (a:Bool) (sz off:Nat) (x:α)
 | iaddr (sz:Nat) (x i:α)
 | ext (x:α) (i:Nat)
 | len (x:α)
 | app (flat:Bool) (sz bytes:Nat) (s x:α)
 | mm (mx:Bool) (x y:α)
 | cpy (x y:α)
 | slz (sz:Nat) (x:α)
 | isn (ne:Bool) (x:α)
 | mnil (ne:Bool) (x:α)
 | mkmap (kk:KK)
 | mlook (ok:Bool) (kk:KK) (z:HV) (x k:α)
 | mset (kk:KK) (x k v:α)
 | mlen (x:α)
 | mrng (x:α)
 | mnxt (x:α)
 | ment (x:α)
 | tostr (x:α)
 | call (f:FuncId) (xs:List α)
 | callv (x:α) (xs:List α)
 | bi (b:Builtin) (ns:List Nat) (zs:List HV) (xs:List α)
 | bad
 deriving Inhabited
def HOp.map {α β:Type} (g:α->β):HOp α->HOp β
 | .mv n x=>.mv n (g x)|.pick c a b=>.pick (g c) (g a) (g b)|.bin o x y=>.bin o (g x) (g y)|.beq o x y=>.beq o (g x) (g y)|.aeq o n x y=>.aeq o n (g x) (g y)|.un o x=>.un o (g x)|.conv k x=>.conv k (g x)
 | .newv sz x=>.newv sz (g x)|.newz z=>.newz z|.bld z ps=>.bld z (ps.map fun p=>(p.1,p.2.1,g p.2.2))|.bsl sz n xs=>.bsl sz n (xs.map g)
 | .load a sz x=>.load a sz (g x)|.store f sz x y=>.store f sz (g x) (g y)|.nilck x=>.nilck (g x)|.mkfn f xs=>.mkfn f (xs.map g)
 | .mksl sz b z l=>.mksl sz b z (g l)|.slc sz x lo hi=>.slc sz (g x) (lo.map g) (hi.map g)|.faddr o x=>.faddr o (g x)|.fld a sz off x=>.fld a sz off (g x)
 | .iaddr sz x i=>.iaddr sz (g x) (g i)|.ext x i=>.ext (g x) i|.len x=>.len (g x)|.app f sz b s x=>.app f sz b (g s) (g x)|.mm m x y=>.mm m (g x) (g y)|.cpy x y=>.cpy (g x) (g y)|.slz n x=>.slz n (g x)|.isn b x=>.isn b (g x)
 | .mnil b x=>.mnil b (g x)|.mkmap kk=>.mkmap kk|.mlook ok kk z x k=>.mlook ok kk z (g x) (g k)|.mset kk x k v=>.mset kk (g x) (g k) (g v)|.mlen x=>.mlen (g x)|.mrng x=>.mrng (g x)|.mnxt x=>.mnxt (g x)|.ment x=>.ment (g x)|.tostr x=>.tostr (g x)
 | .call f xs=>.call f (xs.map g)|.callv x xs=>.callv (g x) (xs.map g)|.bi b ns zs xs=>.bi b ns zs (xs.map g)|.bad=>.bad
structure HOper where
 dst:Option Nat
 op:HOp HX
 guard:Option (Nat×Bool):=none
 deriving Inhabited
inductive HCode where
 | skip
 | region (inc:Option (List Nat)) (ops:List HOper)
 | seq (a b:HCode)
 | cond (c:HX) (a b:HCode)
 | block (id:Nat) (b:HCode)
 | loop (b:HCode)
 | exit (id:Nat)
 | ret
 | bad
 deriving Inhabited
def au (t:Nat):List (Nat×HV)->HV
 | []=>.dead
 | (k,v)::r=>if k=t then v else au t r
def xm (t:Nat) (v:HV):List (Nat×HV)->List (Nat×HV)
 | []=>[(t,v)]
 | (k,u)::r=>if k=t then (t,v)::r else if t<k then (t,v)::(k,u)::r else (k,u)::xm t v r
def ah:HV->List Nat->HV
 | v,[]=>v
 | .osl _ _ cs,j::p=>ah (cs.getD j .dead) p
 | .optr cs,j::p=>ah (cs.getD j .dead) p
 | .omap _ _ cs,j::p=>ah (cs.getD j .dead) p
 | _,_::_=>.dead
def cu (x:HV):HV->List Nat->HV
 | _,[]=>x
 | .osl sz n cs,j::p=>.osl sz n (cs.set j (cu x (cs.getD j .dead) p))
 | .optr cs,j::p=>.optr (cs.set j (cu x (cs.getD j .dead) p))
 | .omap m ks cs,j::p=>.omap m ks (cs.set j (cu x (cs.getD j .dead) p))
 | v,_::_=>v
mutual
def HV.strip:HV->HV
 | .sl n cs=>.sl n (stripL cs)
 | .osl _ n cs=>.sl n (stripL cs)
 | .ptr cs off=>.ptr (stripL cs) off
 | .optr cs=>.ptr (stripL cs) 0
 | .agg cs=>.agg (stripL cs)
 | .tup cs=>.tup (stripL cs)
 | .fn f cap=>.fn f (stripL cap)
 | .rmap m ks cs=>.rmap m ks (stripL cs)
 | .omap m ks cs=>.rmap m ks (stripL cs)
 | .oitr ..=>.dead
 | v=>v
def stripL:List HV->List HV
 | []=>[]
 | v::r=>v.strip::stripL r
end
inductive dJ where
 | put (id:Nat) (t:HV)
 | kill (id len:Nat)
 deriving Inhabited
abbrev Lk:=Nat->HV
def Lk.upd (L:Lk):List dJ->Lk
 | []=>L
 | .put id t::r=>Lk.upd (fun i=>if i=id then t else L i) r
 | .kill _ _::r=>Lk.upd L r
def look (id:Nat) (path:List Nat) (j:Nat):HV->HV
 | .osl sz n _=>match path with
  | []=>.ref id [j] sz 0 n
  | [i]=>.ref id [i,j] sz 0 n
  | _=>.dead
 | .optr _=>match path with
  | []=>.pref id [j] 0
  | [i]=>.pref id [i,j] 0
  | _=>.dead
 | .omap ..=>match path with
  | []=>.mref id [j]
  | [i]=>.mref id [i,j]
  | _=>.dead
 | .mref ..=>.dead
 | .oitr ..=>.dead
 | .agg _=>.dead
 | .tup _=>.dead
 | .fn _ _=>.dead
 | .ref ..=>.dead
 | .pref ..=>.dead
 | v=>v
def fH:HV->Bool
 | .osl ..=>false
 | .optr _=>false
 | .ref ..=>false
 | .pref ..=>false
 | .agg _=>false
 | .tup _=>false
 | .fn _ _=>false
 | .dead=>false
 | .omap ..=>false
 | .mref ..=>false
 | .oitr ..=>false
 | _=>true
def aZ (l:List HV):Bool:=l.all fH
def win (cs:List HV) (off m:Nat):List HV:=if off=0/\m=cs.length then cs else (cs.drop off).take m
def ptrs:List HV->Bool
 | []=>true
 | .ptr _ _::r=>ptrs r
 | _=>false
def takeC (L:Lk) (v:HV):HV×List dJ×Prop :=
 match v with
 | .ref id [] _ off n=>match L id with
  | .osl sz m cs=>(.osl sz m cs,[.put id .dead],off=0/\n=m)
  | _=>(.dead,[],False)
 | .pref id [] off=>match L id with
  | .optr cs=>(.optr cs,[.put id .dead],off=0)
  | _=>(.dead,[],False)
 | .mref id []=>match L id with
  | .omap m ks cs=>(.omap m ks cs,[.put id .dead],True)
  | _=>(.dead,[],False)
 | .ref ..=>(.dead,[],False)
 | .pref ..=>(.dead,[],False)
 | .mref ..=>(.dead,[],False)
 | .omap ..=>(.dead,[],False)
 | .oitr ..=>(.dead,[],False)
 | .agg _=>(.dead,[],False)
 | .tup _=>(.dead,[],False)
 | .osl ..=>(.dead,[],False)
 | .optr _=>(.dead,[],False)
 | .fn f cap=>(.fn f cap,[],ptrs cap=true)
 | .dead=>(.dead,[],False)
 | v=>(v,[],True)
def dO (L:Lk):List HV->List HV×List dJ×Prop
 | []=>([],[],True)
 | v::r =>
  let x:=takeC L v
  let y:=dO (L.upd x.2.1) r
  (x.1::y.1,x.2.1++y.2.1,x.2.2/\y.2.2)
def cellsOf:HV->List HV
 | .agg cs=>cs
 | v=>[v]
mutual
def HV.thaw (T:Nat->Bool) (L:Lk):HV->HV
 | .ref id p sz off n=>if T id then (match ah (L id) p with
  | .osl _ _ cs=>.sl n (stripL (win cs off (n*sz)))
  | _=>.dead) else .ref id p sz off n
 | .pref id p off=>if T id then (match ah (L id) p with
  | .optr cs=>.ptr (stripL cs) off
  | _=>.dead) else .pref id p off
 | .mref id p=>if T id then (match ah (L id) p with
  | .omap m ks cs=>.rmap m ks (stripL cs)
  | _=>.dead) else .mref id p
 | .agg cs=>.agg (bI T L cs)
 | .tup cs=>.tup (bI T L cs)
 | .fn f cap=>.fn f (bI T L cap)
 | .osl ..=>.dead
 | .optr _=>.dead
 | .omap ..=>.dead
 | .oitr ..=>.dead
 | v=>v
def bI (T:Nat->Bool) (L:Lk):List HV->List HV
 | []=>[]
 | v::r=>v.thaw T L::bI T L r
end
def bn:Nat->Bool:=fun _=>true
def aJ:HV->List HV
 | .osl _ _ cs=>cs
 | .optr cs=>cs
 | _=>[]
def lL:HV->List HV
 | .osl _ _ cs=>cs
 | .optr cs=>cs
 | .omap _ _ cs=>cs
 | _=>[]
def setFrom (cs:List HV) (off:Nat):List HV->List HV
 | []=>cs
 | v::r=>setFrom (cs.set off v) (off+1) r
def bu (cs:List HV):HV->HV
 | .osl sz n _=>.osl sz n cs
 | .optr _=>.optr cs
 | .omap m ks _=>.omap m ks cs
 | v=>v
def DC (op:BinOp) (x y:HV):HV×Prop :=
 match x,y with
 | .int k a,.int k' b =>
  match op with
  | .add=>(.int k (k.wrap (a+b)),k=k')
  | .sub=>(.int k (k.wrap (a - b)),k=k')
  | .mul=>(.int k (k.wrap (a*b)),k=k')
  | .quo=>(.int k (k.wrap (a.tdiv b)),k=k'/\b≠0)
  | .rem=>(.int k (a.tmod b),k=k'/\b≠0)
  | .eql=>(.bool (a==b),k=k')
  | .neq=>(.bool (a != b),k=k')
  | .lss=>(.bool (a<b),k=k')
  | .leq=>(.bool (a<=b),k=k')
  | .gtr=>(.bool (a>b),k=k')
  | .geq=>(.bool (a ≥ b),k=k')
  | .shl=>(.int k (k.wrap (a*2 ^ (min b.toNat k.bits))),0<=b)
  | .shr=>(.int k (a.fdiv (2 ^ (min b.toNat k.bits))),0<=b)
  | .and=>(.int k (k.wrap (BitVec.ofInt k.bits a &&& BitVec.ofInt k.bits b).toNat),k=k')
  | .or=>(.int k (k.wrap (BitVec.ofInt k.bits a ||| BitVec.ofInt k.bits b).toNat),k=k')
  | .xor=>(.int k (k.wrap (BitVec.ofInt k.bits a ^^^ BitVec.ofInt k.bits b).toNat),k=k')
  | _=>(.dead,False)
 | _,_=>(.dead,False)
def mg:HV->Bool
 | .dead=>false
 | _=>true
def lN (zs:List HV):List (Nat×Nat×HV)->List HV×Prop
 | []=>(zs,True)
 | (off,sz,v)::r =>
  let x:=lN (setFrom zs off (cellsOf v)) r
  (x.1,(cellsOf v).length=sz/\off+sz<=zs.length/\x.2/\mg v=true)
def cellV:HV->Bool
 | .agg _=>false
 | .tup _=>false
 | .ref ..=>false
 | .pref ..=>false
 | .dead=>false
 | .mref ..=>false
 | .oitr ..=>false
 | _=>true
def fQ (l:List HV):Bool:=l.all cellV
def aU (L:Lk) (flat:Bool) (sz:Nat):HV->Nat×List HV×List dJ×Prop
 | .nils=>(0,[],[],True)
 | .sl m cs=>(m,cs,[],cs.length=m*sz/\fQ cs=true)
 | .ref id p sz' off m=>match ah (L id) p with
  | .osl _ m' cs=>if flat then (m,win cs off (m*sz),[],sz'=sz/\off+m*sz<=cs.length/\aZ (win cs off (m*sz))=true) else (m,cs,[.put id .dead],p=[]/\off=0/\m=m'/\sz'=sz/\fQ cs=true)
  | _=>(0,[],[],False)
 | _=>(0,[],[],False)
def mf:List HV->List HV->Bool
 | [],[]=>true
 | .int _ a::r,.int _ b::r'=>(a==b)&&mf r r'
 | _,_=>false
def gW:List HV->Bool
 | []=>true
 | .int .i64 _::r=>gW r
 | _::_=>false
def bG (kk:KK) (k:HV):Bool :=
 match kk,k with
 | .int q,.int q' _=>q==q'
 | .str,.str _=>true
 | .ints n,.agg cs=>cs.length==n&&gW cs
 | _,_=>false
def tY:HV->HV->Bool
 | .int _ a,.int _ b=>a==b
 | .str a,.str b=>a==b
 | .agg a,.agg b=>mf a b
 | _,_=>false
def dh (k:HV):List HV->Option Nat
 | []=>none
 | x::r=>if tY k x then some 0 else (dh k r).map (·+1)
def MK.grow (m:MK):MK:={ m with pin:=m.pin.map fun p=>(p.1,p.2.1++[p.2.2],p.2.2+1) }
def Ac (m:MK) (ks cs:List HV) (k v:HV):HV :=
 match dh k ks with
 | some j=>.omap m ks (cs.set j v)
 | none=>.omap m.grow (ks++[k]) (cs++[v])
def okV (ok:Bool) (v:HV) (b:Bool):HV:=if ok then .tup [v,.bool b] else v
def bytesOf:List HV->Option (List Int)
 | []=>some []
 | .int .u8 n::r=>(bytesOf r).map (n::·)
 | _::_=>none
def NT (l:List Int):ByteArray:=l.foldl (fun r n=>r.push (UInt8.ofNat n.toNat)) ByteArray.empty
def strOf (cs:List HV):HV×List dJ×Prop :=
 match bytesOf cs with
 | some l=>(.str (NT l),[],True)
 | none=>(.dead,[],False)
def ae (L:Lk) (fr:Nat):HOp HV->HV×List dJ×Prop
 | .mv nz v=>match nz,v with
  | k+1,.nils=>(.ref fr [] (k+1) 0 0,[.put fr (.osl (k+1) 0 [])],True)
  | _,v=>(v,[],True)
 | .pick c a b=>match c with
  | .bool t=>match a,b with
   | .bool x,.bool y=>(.bool (if t then x else y),[],True)
   | u,v=>(if t then u else v,[],True)
  | _=>(.dead,[],False)
 | .bin op x y=>let r:=DC op x y;(r.1,[],r.2)
 | .beq ne x y=>match x,y with
  | .bool a,.bool b=>(.bool (if ne then !(a==b) else a==b),[],True)
  | _,_=>(.dead,[],False)
 | .aeq ne n x y=>match x,y with
  | .agg cs,.agg cs'=>(.bool (if ne then !(mf cs cs') else mf cs cs'),[],cs.length=n/\cs'.length=n/\gW cs=true/\gW cs'=true)
  | _,_=>(.dead,[],False)
 | .un op x=>match op,x with
  | .neg,.int k n=>(.int k (k.wrap (0 - n)),[],True)
  | .not,.bool b=>(.bool (!b),[],True)
  | _,_=>(.dead,[],False)
 | .conv k x=>match x with
  | .int _ n=>(.int k (k.wrap n),[],True)
  | _=>(.dead,[],False)
 | .newv sz x=>let r:=dO L (cellsOf x);(.pref fr [] 0,r.2.1++[.put fr (.optr r.1)],r.2.2/\r.1.length=sz)
 | .newz zs=>(.pref fr [] 0,[.put fr (.optr zs)],True)
 | .bld zs ps=>let r:=lN zs ps;(.agg r.1,[],r.2)
 | .bsl sz n xs=>let r:=dO L (xs.flatMap cellsOf);(.ref fr [] sz 0 n,r.2.1++[.put fr (.osl sz n r.1)],r.2.2/\n=xs.length/\(xs.all fun v=>(cellsOf v).length==sz)=true)
 | .load a sz x=>match x with
  | .ptr cs off=>if a then (.agg (win cs off sz),[],off+sz<=cs.length) else (cs.getD off .dead,[],off<cs.length)
  | .pref id p off =>
   let cs:=aJ (ah (L id) p)
   if a then (.agg (win cs off sz),[],off+sz<=cs.length/\0<sz/\aZ (win cs off sz)=true) else (look id p off (cs.getD off .dead),[],off<cs.length)
  | _=>(.dead,[],False)
 | .store flat sz x y=>match x with
  | .pref id p off =>
   let r:=dO L (cellsOf y)
   let t:=(L.upd r.2.1) id
   let cs:=aJ (ah t p)
   (.dead,r.2.1++(if flat then [] else [.kill id p.length])++[.put id (cu (bu (setFrom cs off r.1) (ah t p)) t p)],r.2.2/\r.1.length=sz/\0<sz/\off+sz<=cs.length/\(flat=true->aZ r.1=true))
  | _=>(.dead,[],False)
 | .nilck x=>match x with
  | .ptr cs o=>(.ptr cs o,[],True)
  | .pref i p o=>(.pref i p o,[],True)
  | .fn f c=>(.fn f c,[],True)
  | _=>(.dead,[],False)
 | .mkfn f xs=>(.fn f xs,[],True)
 | .mksl sz bytes z l=>match l with
  | .int .i64 n=>(.ref fr [] sz 0 n.toNat,[.put fr (.osl sz n.toNat (List.replicate n.toNat z).flatten)],0<=n/\bytes*n<=281474976710656/\n<=9223372036854775807)
  | _=>(.dead,[],False)
 | .slc sz x lo hi =>
  match (lo.getD (.int .i64 0)) with
  | .int .i64 l=>match x with
   | .sl n cs=>match hi.getD (.int .i64 n) with
    | .int .i64 h=>(.sl (h - l).toNat (win cs (l.toNat*sz) ((h - l).toNat*sz)),[],0<=l/\l<=h/\h<=n)
    | _=>(.dead,[],False)
   | .ref id p sz' off n=>match hi.getD (.int .i64 n) with
    | .int .i64 h=>(.ref id p sz' (off+l.toNat*sz') (h - l).toNat,[],0<=l/\l<=h/\h<=n/\sz'=sz)
    | _=>(.dead,[],False)
   | _=>(.dead,[],False)
  | _=>(.dead,[],False)
 | .faddr d x=>match x with
  | .ptr cs o=>(.ptr cs (o+d),[],True)
  | .pref i p o=>(.pref i p (o+d),[],True)
  | _=>(.dead,[],False)
 | .fld a sz off x=>match x with
  | .agg cs=>if a then (.agg (win cs off sz),[],off+sz<=cs.length) else (cs.getD off .dead,[],off<cs.length)
  | _=>(.dead,[],False)
 | .iaddr sz x i=>match i with
  | .int _ j=>match x with
   | .sl n cs=>(.ptr cs (j.toNat*sz),[],0<=j/\j<n)
   | .ref id p sz' off n=>(.pref id p (off+j.toNat*sz'),[],0<=j/\j<n/\sz'=sz)
   | _=>(.dead,[],False)
  | _=>(.dead,[],False)
 | .ext x i=>match x with
  | .tup cs=>(cs.getD i .dead,[],i<cs.length)
  | _=>(.dead,[],False)
 | .len x=>match x with
  | .nils=>(.int .i64 0,[],True)
  | .sl n _=>(.int .i64 n,[],True)
  | .ref _ _ _ _ n=>(.int .i64 n,[],True)
  | _=>(.dead,[],False)
 | .app flat sz bytes x y =>
  let news:=aU L flat sz y
  match x with
  | .nils=>(.ref fr [] sz 0 news.1,news.2.2.1++[.put fr (.osl sz news.1 news.2.1)],news.2.2.2/\news.1*bytes<=140737488355328/\news.1<=maxLen)
  | .ref id p sz' off n =>
   let t:=(L.upd news.2.2.1) id
   match ah t p with
   | .osl _ _ cs=>(.ref fr [] sz 0 (n+news.1),news.2.2.1++[.put id (cu .dead t p),.put fr (.osl sz (n+news.1) (win cs off (n*sz)++news.2.1))],
     news.2.2.2/\(n+news.1)*bytes<=140737488355328/\n+news.1<=maxLen/\sz'=sz/\off+n*sz<=cs.length)
   | _=>(.dead,[],False)
  | _=>(.dead,[],False)
 | .mm mx x y=>match x,y with
  | .int k a,.int k' b=>(.int k (if mx then (if a<b then b else a) else (if b<a then b else a)),[],k=k')
  | _,_=>(.dead,[],False)
 | .cpy x y =>
  let news:=aU L true 1 y
  match x with
  | .ref id p sz' off n =>
   let cs:=aJ (ah (L id) p)
   (.int .i64 (min news.1 n:Nat),[.put id (cu (bu (setFrom cs off (news.2.1.take (min news.1 n))) (ah (L id) p)) (L id) p)],
    news.2.2.2/\sz'=1/\0<min news.1 n/\off+min news.1 n<=cs.length/\aZ (news.2.1.take (min news.1 n))=true)
  | _=>(.dead,[],False)
 | .slz sz x=>match x with
  | .nils=>(.ref fr [] sz 0 0,[.put fr (.osl sz 0 [])],True)
  | .sl _ _=>(.ref fr [] sz 0 0,[.put fr (.osl sz 0 [])],True)
  | .ref ..=>(.ref fr [] sz 0 0,[.put fr (.osl sz 0 [])],True)
  | _=>(.dead,[],False)
 | .isn ne x=>match x with
  | .nils=>(.bool (!ne),[],True)
  | .sl n _=>(.bool ne,[],0<n)
  | .ref _ _ _ _ n=>(.bool ne,[],0<n)
  | _=>(.dead,[],False)
 | .mnil ne x=>match x with
  | .nilm=>(.bool (!ne),[],True)
  | .rmap ..=>(.bool ne,[],True)
  | .mref id p=>match ah (L id) p with
   | .omap ..=>(.bool ne,[],True)
   | _=>(.dead,[],False)
  | _=>(.dead,[],False)
 | .mkmap kk=>(.mref fr [],[.put fr (.omap ⟨kk,none⟩ [] [])],True)
 | .mlook ok kk z x k =>
  match x with
  | .nilm=>(okV ok z false,[],bG kk k=true)
  | .rmap m ks cs=>match dh k ks with
   | some j=>(okV ok (cs.getD j .dead) true,[],m.kind=kk/\bG kk k=true)
   | none=>(okV ok z false,[],m.kind=kk/\bG kk k=true)
  | .mref id p=>match ah (L id) p with
   | .omap m ks cs=>match dh k ks with
    | some j=>(okV ok (look id p j (cs.getD j .dead)) true,[],m.kind=kk/\bG kk k=true)
    | none=>(okV ok z false,[],m.kind=kk/\bG kk k=true)
   | _=>(.dead,[],False)
  | _=>(.dead,[],False)
 | .mset kk x k v =>
  match x with
  | .mref id p =>
   let r:=takeC L v
   let t:=(L.upd r.2.1) id
   match ah t p with
   | .omap m ks cs=>(.dead,r.2.1++[.kill id p.length]++[.put id (cu (Ac m ks cs k r.1) t p)],r.2.2/\m.kind=kk/\bG kk k=true)
   | _=>(.dead,[],False)
  | _=>(.dead,[],False)
 | .mlen x=>match x with
  | .nilm=>(.int .i64 0,[],True)
  | .rmap _ ks _=>(.int .i64 ks.length,[],True)
  | .mref id p=>match ah (L id) p with
   | .omap _ ks _=>(.int .i64 ks.length,[],True)
   | _=>(.dead,[],False)
  | _=>(.dead,[],False)
 | .mrng _=>(.dead,[],False)
 | .mnxt _=>(.dead,[],False)
 | .ment _=>(.dead,[],False)
 | .tostr x=>match x with
  | .nils=>(.str (NT []),[],True)
  | .sl n cs=>let r:=strOf cs;(r.1,r.2.1,r.2.2/\cs.length=n)
  | .ref id p sz off n=>match ah (L id) p with
   | .osl _ _ cs=>let r:=strOf (win cs off n);(r.1,r.2.1,r.2.2/\sz=1/\off+n<=cs.length)
   | _=>(.dead,[],False)
  | _=>(.dead,[],False)
 | .call _ _=>(.dead,[],False)
 | .callv _ _=>(.dead,[],False)
 | .bi ..=>(.dead,[],False)
 | .bad=>(.dead,[],False)
structure St where
 sl:List (Nat×HV)
 st:List (Nat×HV)
 nx:Nat
 deriving Inhabited
def ev (sl:List (Nat×HV)):HX->HV
 | .t i=>au i sl
 | .c v=>v
mutual
def HV.kill (id len:Nat):HV->HV
 | .ref i p sz o n=>if i=id/\len<p.length then .dead else .ref i p sz o n
 | .pref i p o=>if i=id/\len<p.length then .dead else .pref i p o
 | .mref i p=>if i=id/\len<p.length then .dead else .mref i p
 | .agg cs=>.agg (nY id len cs)
 | .tup cs=>.tup (nY id len cs)
 | .fn f cap=>.fn f (nY id len cap)
 | v=>v
def nY (id len:Nat):List HV->List HV
 | []=>[]
 | v::r=>v.kill id len::nY id len r
end
def St.upd (s:St):List dJ->St
 | []=>s
 | .put id t::r=>St.upd { s with st:=xm id t s.st } r
 | .kill id len::r=>St.upd { s with sl:=s.sl.map fun p=>(p.1,p.2.kill id len) } r
def St.put (s:St) (d:Option Nat) (v:HV):St :=
 match d with
 | none=>s
 | some d=>{ s with sl:=xm d v s.sl }
mutual
def unpack (fr:Nat):HV->HV×List dJ×Nat
 | .osl sz n cs=>(.ref fr [] sz 0 n,[.put fr (.osl sz n cs)],fr+1)
 | .optr cs=>(.pref fr [] 0,[.put fr (.optr cs)],fr+1)
 | .omap m ks cs=>(.mref fr [],[.put fr (.omap m ks cs)],fr+1)
 | .oitr b s l c=>(.mref fr [],[.put fr (.oitr b s l c)],fr+1)
 | .agg cs=>let r:=aH fr cs;(.agg r.1,r.2.1,r.2.2)
 | .tup cs=>let r:=aH fr cs;(.tup r.1,r.2.1,r.2.2)
 | .fn f cap=>let r:=aH fr cap;(.fn f r.1,r.2.1,r.2.2)
 | v=>(v,[],fr)
def aH (fr:Nat):List HV->List HV×List dJ×Nat
 | []=>([],[],fr)
 | v::r=>let x:=unpack fr v;let y:=aH x.2.2 r;(x.1::y.1,x.2.1++y.2.1,y.2.2)
end
mutual
def HV.refFree:HV->Bool
 | .ref ..=>false
 | .pref ..=>false
 | .agg cs=>aI cs
 | .tup cs=>aI cs
 | .fn _ cs=>aI cs
 | .osl ..=>false
 | .optr _=>false
 | .omap ..=>false
 | .mref ..=>false
 | .oitr ..=>false
 | _=>true
def aI:List HV->Bool
 | []=>true
 | v::r=>v.refFree&&aI r
end
mutual
def HV.noRd:HV->Bool
 | .sl n cs=>n==0&&cs.isEmpty
 | .ptr ..=>false
 | .osl _ _ cs=>eu cs
 | .optr cs=>eu cs
 | .agg cs=>eu cs
 | .tup cs=>eu cs
 | .fn _ cs=>eu cs
 | .rmap ..=>false
 | .omap _ _ cs=>eu cs
 | _=>true
def eu:List HV->Bool
 | []=>true
 | v::r=>v.noRd&&eu r
end
abbrev o9:=FuncId->List HV->(HV->Prop)->Prop
inductive HE where
 | normal
 | exit (id:Nat)
 | ret
def stride:Nat:=16
structure CallSpec where
 ap:o9
 sem:St->Nat->Option Nat->HOp HX->(St->Prop)->Prop:=fun _ _ _ _ _=>False
instance:CoeFun CallSpec fun _=>o9:=⟨CallSpec.ap⟩
def hop0 (C:o9) (s:St) (i:Nat) (o:HOper) (K:St->Prop):Prop :=
 match o.op.map (ev s.sl) with
 | .call f xs=>C f (bI bn (fun i=>au i s.st) xs) fun r=>(aI xs || r.noRd)=true/\let u:=unpack (s.nx+stride*i) r;u.2.2<=s.nx+stride*(i+1)/\K ((s.upd u.2.1).put o.dst u.1)
 | .callv (.fn f cap) xs=>C f (bI bn (fun i=>au i s.st) (xs++cap)) fun r=>(aI (xs++cap) || r.noRd)=true/\let u:=unpack (s.nx+stride*i) r;u.2.2<=s.nx+stride*(i+1)/\K ((s.upd u.2.1).put o.dst u.1)
 | op=>let r:=ae (fun i=>au i s.st) (s.nx+stride*i) op;r.2.2/\K ((s.upd r.2.1).put o.dst r.1)
def hop (C:CallSpec) (s:St) (i:Nat) (o:HOper) (K:St->Prop):Prop:=hop0 C.ap s i o K\/C.sem s i o.dst o.op K
def hops (C:CallSpec) (all:List HOper):List HOper->Nat->(St->Prop)->St->Prop
 | [],_,K,s=>K s
 | o::r,i,K,s =>
  match o.guard with
  | none=>hop C s i o (hops C all r (i+1) K)
  | some (j,want)=>match ((all[j]?).bind (·.dst)).map (fun d=>au d s.sl) with
   | some (.bool b)=>(b=want->hop C s i o (hops C all r (i+1) K))/\(b≠want->hops C all r (i+1) K (s.put o.dst (.tup [])))
   | some (.tup [])=>hops C all r (i+1) K (s.put o.dst (.tup []))
   | _=>False
mutual
def takeD (L:Lk):HV->HV×List dJ×Prop
 | .agg cs=>let r:=ak L cs;(.agg r.1,r.2.1,r.2.2)
 | .tup cs=>let r:=ak L cs;(.tup r.1,r.2.1,r.2.2)
 | .fn f cs=>let r:=ak L cs;(.fn f r.1,r.2.1,r.2.2)
 | .dead=>(.dead,[],True)
 | v=>takeC L v
def ak (L:Lk):List HV->List HV×List dJ×Prop
 | []=>([],[],True)
 | v::r =>
  let x:=takeD L v
  let y:=ak (L.upd x.2.1) r
  (x.1::y.1,x.2.1++y.2.1,x.2.2/\y.2.2)
end
def fJ:List HV->HV
 | [v]=>v
 | vs=>.tup vs
end Go.HL
end
section
namespace Go.HL
open Go.RowKit
abbrev Hp:=Array Obj
def dA:HV->Value->Prop:=fun _ _=>False
def kv:HV->Value
 | .int k n=>.int k n
 | .str s=>.string s
 | .agg cs=>.agg (cs.map fun|.int k n=>Value.int k n|_=>.nilFunc).toArray
 | _=>.nilFunc
def UQ:Nat->Option Nat
 | 0=>none
 | k+1=>some k
structure MapOk (m:MK) (ks:List HV) (g:Nat) (es:Array MapEntry) (ck:Nat):Prop where
 keys:es.toList.map (·.key)=ks.map kv
 good:ks.all (bG m.kind)=true
 lt:∀e∈es.toList,e.born<ck
 nodup:(es.toList.map (·.born)).Nodup
 pin:m.pin=none\/m.pin=some (g,es.toList.map (·.born),ck)
inductive OW (F:Nat->Prop) (h:Hp):(HV->Value->Prop)->List HV->List Value->List Nat->Prop
 | nil {R}:OW F h R [] [] []
 | leaf {R v rv r rr fs}:fH v=false->(∀sz n cs,v≠.osl sz n cs)->((∀cs,v≠.optr cs)/\(∀m ks cs,v≠.omap m ks cs)/\(∀b s l c,v≠.oitr b s l c))->(∀cs,v≠.agg cs)->(∀cs,v≠.tup cs)->(∀f cs,v≠.fn f cs)->R v rv->OW F h R r rr fs->OW F h R (v::r) (rv::rr) fs
 | int {R k n r rr fs}:OW F h R r rr fs->OW F h R (.int k n::r) (.int k n::rr) fs
 | bool {R b r rr fs}:OW F h R r rr fs->OW F h R (.bool b::r) (.bool b::rr) fs
 | str {R s r rr fs}:OW F h R r rr fs->OW F h R (.str s::r) (.string s::rr) fs
 | nils {R r rr fs}:OW F h R r rr fs->OW F h R (.nils::r) (.slice none 0 0::rr) fs
 | nilp {R r rr fs}:OW F h R r rr fs->OW F h R (.nilp::r) (.pointer none::rr) fs
 | nilf {R r rr fs}:OW F h R r rr fs->OW F h R (.nilf::r) (.nilFunc::rr) fs
 | dead {R rv r rr fs}:OW F h R r rr fs->OW F h R (.dead::r) (rv::rr) fs
 | sl0 {R a cap r rr fs}:OW F h R r rr fs->OW F h R (.sl 0 []::r) (.slice a 0 cap::rr) fs
 | sl {R n cs g off cap cur e fr rvs r rr fs}:F g->h[g]?=some (.cells cur e fr)->rvs=(cur.toList.drop off).take cs.length->n<=cap->OW F h dA cs rvs []->OW F h R r rr fs ->
   OW F h R (.sl n cs::r) (.slice (some ⟨g,off,none⟩) n cap::rr) fs
 | osl0 {R sz a r rr fs}:OW F h R r rr fs->OW F h R (.osl sz 0 []::r) (.slice a 0 0::rr) fs
 | osl {R sz n cs g off cap cur e rvs f1 r rr fs}:h[g]?=some (.cells cur e (0,0))->cs.length=n*sz->rvs=(cur.toList.drop off).take cs.length->off+cap*sz=cur.size->n<=cap->cap<=maxLen ->
   OW F h dA cs rvs f1->OW F h R r rr fs->OW F h R (.osl sz n cs::r) (.slice (some ⟨g,off,none⟩) n cap::rr) ((g::f1)++fs)
 | ptr {R cs off g base cur e fr rvs r rr fs}:F g->h[g]?=some (.cells cur e fr)->rvs=(cur.toList.drop base).take cs.length->OW F h dA cs rvs []->OW F h R r rr fs ->
   OW F h R (.ptr cs off::r) (.pointer (some ⟨g,base+off,none⟩)::rr) fs
 | optr {R cs g cur e f1 r rr fs}:h[g]?=some (.cells cur e (0,0))->OW F h dA cs cur.toList f1->OW F h R r rr fs ->
   OW F h R (.optr cs::r) (.pointer (some ⟨g,0,none⟩)::rr) ((g::f1)++fs)
 | nilm {R r rr fs}:OW F h R r rr fs->OW F h R (.nilm::r) (.map none::rr) fs
 | rmap {R m ks cs g es ck r rr fs}:F g->h[g]?=some (.map es ck)->MapOk m ks g es ck->OW F h dA cs (es.toList.map (·.val)) []->OW F h R r rr fs ->
   OW F h R (.rmap m ks cs::r) (.map (some g)::rr) fs
 | omap {R m ks cs g es ck f1 r rr fs}:h[g]?=some (.map es ck)->MapOk m ks g es ck->OW F h dA cs (es.toList.map (·.val)) f1->OW F h R r rr fs ->
   OW F h R (.omap m ks cs::r) (.map (some g)::rr) ((g::f1)++fs)
 | oitr {R b s l c g r rr fs}:h[g]?=some (.mapIter (UQ b) s l.toArray c)->OW F h R r rr fs->OW F h R (.oitr b s l c::r) (.pointer (some ⟨g,0,none⟩)::rr) ((g::[])++fs)
 | agg {R cs rvs f1 r rr fs}:OW F h R cs rvs f1->OW F h R r rr fs->OW F h R (.agg cs::r) (.agg rvs.toArray::rr) (f1++fs)
 | tup {R cs rvs f1 r rr fs}:OW F h R cs rvs f1->OW F h R r rr fs->OW F h R (.tup cs::r) (.tuple rvs.toArray::rr) (f1++fs)
 | fn {R f cs rvs f1 r rr fs}:OW F h R cs rvs f1->OW F h R r rr fs->OW F h R (.fn f cs::r) (.func (.func f) #[] rvs.toArray::rr) (f1++fs)
section
variable {F F':Nat->Prop} {h h':Hp} {R R':HV->Value->Prop}
theorem OW.length {vs rvs fs} (o:OW F h R vs rvs fs):vs.length=rvs.length:=by
 induction o<;>simp only [List.length_cons,List.length_nil]<;>omega
theorem OW.stable {vs rvs fs} (o:OW F h R vs rvs fs) (hf:∀b∈fs,h'[b]?=h[b]?) (hF:∀b,F b->F' b/\h'[b]?=h[b]?) (hR:∀v rv,R v rv->R' v rv):OW F' h' R' vs rvs fs:=by
 induction o generalizing R' with
 | nil=>exact .nil
 | leaf a b c d e f g _ ih=>exact .leaf a b c d e f (hR _ _ g) (ih hf hR)
 | int _ ih=>exact .int (ih hf hR)
 | bool _ ih=>exact .bool (ih hf hR)
 | str _ ih=>exact .str (ih hf hR)
 | nils _ ih=>exact .nils (ih hf hR)
 | nilp _ ih=>exact .nilp (ih hf hR)
 | nilf _ ih=>exact .nilf (ih hf hR)
 | dead _ ih=>exact .dead (ih hf hR)
 | sl0 _ ih=>exact .sl0 (ih hf hR)
 | sl a b c d _ _ ih1 ih2=>exact .sl (hF _ a).1 ((hF _ a).2.trans b) c d (ih1 (by simp) (fun _ _ h=>h)) (ih2 hf hR)
 | osl0 _ ih=>exact .osl0 (ih hf hR)
 | osl a b c d e f _ _ ih1 ih2 =>
  exact .osl ((hf _ (by simp)).trans a) b c d e f (ih1 (fun b hb=>hf b (by simp [hb])) (fun _ _ h=>h)) (ih2 (fun b hb=>hf b (by simp [hb])) hR)
 | ptr a b c _ _ ih1 ih2=>exact .ptr (hF _ a).1 ((hF _ a).2.trans b) c (ih1 (by simp) (fun _ _ h=>h)) (ih2 hf hR)
 | optr a _ _ ih1 ih2=>exact .optr ((hf _ (by simp)).trans a) (ih1 (fun b hb=>hf b (by simp [hb])) (fun _ _ h=>h)) (ih2 (fun b hb=>hf b (by simp [hb])) hR)
 | nilm _ ih=>exact .nilm (ih hf hR)
 | rmap a b c _ _ ih1 ih2=>exact .rmap (hF _ a).1 ((hF _ a).2.trans b) c (ih1 (by simp) (fun _ _ h=>h)) (ih2 hf hR)
 | omap a b _ _ ih1 ih2=>exact .omap ((hf _ (by simp)).trans a) b (ih1 (fun b hb=>hf b (by simp [hb])) (fun _ _ h=>h)) (ih2 (fun b hb=>hf b (by simp [hb])) hR)
 | oitr a _ ih=>exact .oitr ((hf _ (by simp)).trans a) (ih (fun b hb=>hf b (by simp [hb])) hR)
 | agg _ _ ih1 ih2=>exact .agg (ih1 (fun b hb=>hf b (by simp [hb])) hR) (ih2 (fun b hb=>hf b (by simp [hb])) hR)
 | tup _ _ ih1 ih2=>exact .tup (ih1 (fun b hb=>hf b (by simp [hb])) hR) (ih2 (fun b hb=>hf b (by simp [hb])) hR)
 | fn _ _ ih1 ih2=>exact .fn (ih1 (fun b hb=>hf b (by simp [hb])) hR) (ih2 (fun b hb=>hf b (by simp [hb])) hR)
theorem OW.lt {vs rvs fs} (o:OW F h R vs rvs fs):∀b∈fs,b<h.size:=by
 induction o with
 | osl a _ _ _ _ _ _ _ ih1 ih2 =>
  intro b hb
  simp only [List.cons_append,zl008,zl001] at hb
  rcases hb with rfl|hb|hb
  ·exact (zl022.1 a).1
  ·exact ih1 b hb
  ·exact ih2 b hb
 | optr a _ _ ih1 ih2 =>
  intro b hb
  simp only [List.cons_append,zl008,zl001] at hb
  rcases hb with rfl|hb|hb
  ·exact (zl022.1 a).1
  ·exact ih1 b hb
  ·exact ih2 b hb
 | omap a _ _ _ ih1 ih2 =>
  intro b hb
  simp only [List.cons_append,zl008,zl001] at hb
  rcases hb with rfl|hb|hb
  ·exact (zl022.1 a).1
  ·exact ih1 b hb
  ·exact ih2 b hb
 | oitr a _ ih =>
  intro b hb
  simp only [List.cons_append,List.nil_append,zl008] at hb
  rcases hb with rfl|hb
  ·exact (zl022.1 a).1
  ·exact ih b hb
 | agg _ _ ih1 ih2=>intro b hb;rcases zl001.1 hb with hb|hb;exact ih1 b hb;exact ih2 b hb
 | tup _ _ ih1 ih2=>intro b hb;rcases zl001.1 hb with hb|hb;exact ih1 b hb;exact ih2 b hb
 | fn _ _ ih1 ih2=>intro b hb;rcases zl001.1 hb with hb|hb;exact ih1 b hb;exact ih2 b hb
 | nil=>intro b hb;cases hb
 | leaf _ _ _ _ _ _ _ _ ih=>exact ih
 | int _ ih=>exact ih
 | bool _ ih=>exact ih
 | str _ ih=>exact ih
 | nils _ ih=>exact ih
 | nilp _ ih=>exact ih
 | nilf _ ih=>exact ih
 | dead _ ih=>exact ih
 | sl0 _ ih=>exact ih
 | sl _ _ _ _ _ _ _ ih=>exact ih
 | osl0 _ ih=>exact ih
 | ptr _ _ _ _ _ _ ih=>exact ih
 | nilm _ ih=>exact ih
 | rmap _ _ _ _ _ _ ih=>exact ih
theorem OW.append {vs rvs fs us rus gs} (o:OW F h R vs rvs fs) (o2:OW F h R us rus gs):OW F h R (vs++us) (rvs++rus) (fs++gs):=by
 induction o generalizing us rus gs with
 | nil=>exact o2
 | leaf a b c d e f g _ ih=>exact .leaf a b c d e f g (ih o2)
 | int _ ih=>exact .int (ih o2)
 | bool _ ih=>exact .bool (ih o2)
 | str _ ih=>exact .str (ih o2)
 | nils _ ih=>exact .nils (ih o2)
 | nilp _ ih=>exact .nilp (ih o2)
 | nilf _ ih=>exact .nilf (ih o2)
 | dead _ ih=>exact .dead (ih o2)
 | sl0 _ ih=>exact .sl0 (ih o2)
 | sl a b c d e _ _ ih=>exact .sl a b c d e (ih o2)
 | osl0 _ ih=>exact .osl0 (ih o2)
 | osl a b c d e f g _ _ ih=>rw [vY];exact .osl a b c d e f g (ih o2)
 | ptr a b c d _ _ ih=>exact .ptr a b c d (ih o2)
 | optr a b _ _ ih=>rw [vY];exact .optr a b (ih o2)
 | nilm _ ih=>exact .nilm (ih o2)
 | rmap a b c d _ _ ih=>exact .rmap a b c d (ih o2)
 | omap a b c _ _ ih=>rw [vY];exact .omap a b c (ih o2)
 | oitr a _ ih=>rw [vY];exact .oitr a (ih o2)
 | agg a _ _ ih=>rw [vY];exact .agg a (ih o2)
 | tup a _ _ ih=>rw [vY];exact .tup a (ih o2)
 | fn a _ _ ih=>rw [vY];exact .fn a (ih o2)
theorem OW.split1 {v rv r rr fs} (o:OW F h R (v::r) (rv::rr) fs):∃f1 f2,fs=f1++f2/\OW F h R [v] [rv] f1/\OW F h R r rr f2:=by
 cases o with
 | leaf a b c d e f g t=>exact ⟨[],_,rfl,.leaf a b c d e f g .nil,t⟩
 | int t=>exact ⟨[],_,rfl,.int .nil,t⟩
 | bool t=>exact ⟨[],_,rfl,.bool .nil,t⟩
 | str t=>exact ⟨[],_,rfl,.str .nil,t⟩
 | nils t=>exact ⟨[],_,rfl,.nils .nil,t⟩
 | nilp t=>exact ⟨[],_,rfl,.nilp .nil,t⟩
 | nilf t=>exact ⟨[],_,rfl,.nilf .nil,t⟩
 | dead t=>exact ⟨[],_,rfl,.dead .nil,t⟩
 | sl0 t=>exact ⟨[],_,rfl,.sl0 .nil,t⟩
 | sl a b c d e t=>exact ⟨[],_,rfl,.sl a b c d e .nil,t⟩
 | osl0 t=>exact ⟨[],_,rfl,.osl0 .nil,t⟩
 | osl a b c d e f g t=>exact ⟨_++[],_,by simp,.osl a b c d e f g .nil,t⟩
 | ptr a b c d t=>exact ⟨[],_,rfl,.ptr a b c d .nil,t⟩
 | optr a b t=>exact ⟨_++[],_,by simp,.optr a b .nil,t⟩
 | nilm t=>exact ⟨[],_,rfl,.nilm .nil,t⟩
 | rmap a b c d t=>exact ⟨[],_,rfl,.rmap a b c d .nil,t⟩
 | omap a b c t=>exact ⟨_++[],_,by simp,.omap a b c .nil,t⟩
 | oitr a t=>exact ⟨[_]++[],_,by simp,.oitr a .nil,t⟩
 | agg a t=>exact ⟨_++[],_,by simp,.agg a .nil,t⟩
 | tup a t=>exact ⟨_++[],_,by simp,.tup a .nil,t⟩
 | fn a t=>exact ⟨_++[],_,by simp,.fn a .nil,t⟩
theorem OW.cons1 {v rv r rr f1 f2} (o:OW F h R [v] [rv] f1) (o2:OW F h R r rr f2):OW F h R (v::r) (rv::rr) (f1++f2):=o.append o2
theorem OW.splitAt {us:List HV}:∀ {vs rvs fs},OW F h R (us++vs) rvs fs->∃ru rw f1 f2,rvs=ru++rw/\fs=f1++f2/\ru.length=us.length/\OW F h R us ru f1/\OW F h R vs rw f2:=by
 induction us with
 | nil=>intro vs rvs fs o;exact ⟨[],rvs,[],fs,rfl,rfl,rfl,.nil,o⟩
 | cons u us ih =>
  intro vs rvs fs o
  cases rvs with
  | nil=>exact absurd o.length (by simp)
  | cons rv rvs =>
   obtain ⟨f1,f2,rfl,o1,o2⟩:=o.split1
   obtain ⟨ru,rw',g1,g2,rfl,rfl,hl,o3,o4⟩:=ih o2
   exact ⟨rv::ru,rw',f1++g1,g2,rfl,by simp,by simp [hl],o1.cons1 o3,o4⟩
theorem OW.strip {R vs rvs fs} (o:OW F h R vs rvs fs) (hn:∀v rv,¬ R v rv) (hf:∀b∈fs,F' b) (hF:∀b,F b->F' b):OW F' h dA (stripL vs) rvs []:=by
 induction o with
 | nil=>exact .nil
 | leaf a b c d e f g _ ih=>exact absurd g (hn _ _)
 | int _ ih=>exact .int (ih hn hf)
 | bool _ ih=>exact .bool (ih hn hf)
 | str _ ih=>exact .str (ih hn hf)
 | nils _ ih=>exact .nils (ih hn hf)
 | nilp _ ih=>exact .nilp (ih hn hf)
 | nilf _ ih=>exact .nilf (ih hn hf)
 | dead _ ih=>exact .dead (ih hn hf)
 | sl0 _ ih=>exact .sl0 (ih hn hf)
 | @sl R n cs g off cap cur e fr rvs r rr fs a b c x d _ ih1 ih2 =>
  have i1:=ih1 (fun _ _ h=>h) (by simp)
  have hl:(stripL cs).length=cs.length:=i1.length.trans d.length.symm
  exact .sl (hF _ a) b (by rw [hl];exact c) x i1 (ih2 hn hf)
 | osl0 _ ih=>exact .sl0 (ih hn hf)
 | @osl R sz n cs g off cap cur e rvs f1 r rr fs a b c d e' f x _ ih1 ih2 =>
  have i1:=ih1 (fun _ _ h=>h) fun b hb=>hf b (by simp [hb])
  have hl:(stripL cs).length=cs.length:=i1.length.trans x.length.symm
  exact .sl (hf _ (by simp)) a (by rw [hl];exact c) e' i1 (ih2 hn fun b hb=>hf b (by simp [hb]))
 | @ptr R cs off g base cur e fr rvs r rr fs a b c d _ ih1 ih2 =>
  have i1:=ih1 (fun _ _ h=>h) (by simp)
  have hl:(stripL cs).length=cs.length:=i1.length.trans d.length.symm
  exact .ptr (hF _ a) b (by rw [hl];exact c) i1 (ih2 hn hf)
 | @optr R cs g cur e f1 r rr fs a b _ ih1 ih2 =>
  have i1:=ih1 (fun _ _ h=>h) fun b hb=>hf b (by simp [hb])
  have hl:(stripL cs).length=cur.toList.length:=i1.length
  have:=OW.ptr (F:=F') (h:=h) (R:=dA) (off:=0) (base:=0) (hf g (by simp)) a (by rw [hl];simp [mW]) i1 (ih2 hn fun b hb=>hf b (by simp [hb]))
  exact this
 | nilm _ ih=>exact .nilm (ih hn hf)
 | rmap a b c _ _ ih1 ih2=>exact .rmap (hF _ a) b c (ih1 (fun _ _ h=>h) (by simp)) (ih2 hn hf)
 | omap a b _ _ ih1 ih2=>exact .rmap (hf _ (by simp)) a b (ih1 (fun _ _ h=>h) fun b hb=>hf b (by simp [hb])) (ih2 hn fun b hb=>hf b (by simp [hb]))
 | oitr _ _ ih=>exact .dead (ih hn fun b hb=>hf b (by simp [hb]))
 | agg _ _ ih1 ih2=>exact .agg (ih1 hn fun b hb=>hf b (by simp [hb])) (ih2 hn fun b hb=>hf b (by simp [hb]))
 | tup _ _ ih1 ih2=>exact .tup (ih1 hn fun b hb=>hf b (by simp [hb])) (ih2 hn fun b hb=>hf b (by simp [hb]))
 | fn _ _ ih1 ih2=>exact .fn (ih1 hn fun b hb=>hf b (by simp [hb])) (ih2 hn fun b hb=>hf b (by simp [hb]))
theorem OW.at {vs rvs fs} (o:OW F h R vs rvs fs) (j:Nat) (hj:j<vs.length) :
  ∃rv f1 f2 f3,rvs[j]?=some rv/\fs=f1++f2++f3/\OW F h R [vs.getD j .dead] [rv] f2 /\
   ∀ (F':Nat->Prop) (h':Hp) (R':HV->Value->Prop) v' rv' f2',(∀b∈f1++f3,h'[b]?=h[b]?)->(∀b,F b->F' b/\h'[b]?=h[b]?)->(∀v rv,R v rv->R' v rv) ->
    OW F' h' R' [v'] [rv'] f2'->OW F' h' R' (vs.set j v') (rvs.set j rv') (f1++f2'++f3):=by
 have hs:vs=vs.take j++vs.getD j .dead::vs.drop (j+1):=by
  have:vs.getD j .dead=vs[j]:=by simp [hj]
  rw [this]
  simp
 have o':=o
 rw [hs] at o'
 obtain ⟨ru,rw',f1,f2,h1,h2,hl,o1,o2⟩:=OW.splitAt o'
 cases rw' with
 | nil=>exact absurd o2.length (by simp)
 | cons rv rr =>
  obtain ⟨f3,f4,rfl,o3,o4⟩:=o2.split1
  have hl':ru.length=j:=by rw [hl];simp;omega
  refine ⟨rv,f1,f3,f4,?_,by rw [h2];simp,o3,?_⟩
  ·rw [h1,List.getElem?_append_right (by omega)];simp [hl']
  ·intro F' h' R' v' rv' f2' hb hF hR on
   have e1:vs.set j v'=vs.take j++v'::vs.drop (j+1):=by
    rw [List.set_eq_take_append_cons_drop,if_pos hj]
   have e2:rvs.set j rv'=ru++rv'::rr:=by
    rw [h1,I9 _ _ (by omega)];simp [hl']
   rw [e1,e2,vY]
   exact (o1.stable (fun b hb'=>hb b (by simp [hb'])) hF hR).append (on.cons1 (o4.stable (fun b hb'=>hb b (by simp [hb'])) hF hR))
end
def cellAt (h:Hp) (g o:Nat):Option Value :=
 match h[g]? with
 | some (.cells c _ _)=>c[o]?
 | _=>none
theorem jf (w:World) (g o:Nat):w.cell? ⟨g,o,none⟩=cellAt w.heap g o:=by
 unfold World.cell? cellAt
 cases h:w.heap[g]? with
 | none=>simp
 | some x=>cases x<;>simp
def mP (h:Hp) (g o:Nat):Option Value :=
 match h[g]? with
 | some (.cells c _ _)=>c[o]?
 | some (.map es _)=>(es[o]?).map (·.val)
 | _=>none
theorem kC {h:Hp} {g o:Nat} {c:Array Value} {e:TypeId} {fr:Nat×Nat} (hg:h[g]?=some (.cells c e fr)):mP h g o=c[o]?:=by simp [mP,hg]
theorem H8 {h:Hp} {g o:Nat} {es:Array MapEntry} {ck:Nat} (hg:h[g]?=some (.map es ck)):mP h g o=(es[o]?).map (·.val):=by simp [mP,hg]
def je:Value->Option (Nat×Nat)
 | .slice (some ⟨g,o,none⟩) _ _=>some (g,o)
 | .pointer (some ⟨g,o,none⟩)=>some (g,o)
 | .map (some g)=>some (g,0)
 | _=>none
def bW (h:Hp):Value->List Nat->Option Value
 | rv,[]=>some rv
 | rv,[j]=>match je rv with
  | some (g,o)=>mP h g (o+j)
  | none=>none
 | rv,j::k::p=>match je rv with
  | some (g,o)=>match mP h g (o+j) with
   | some v=>bW h v (k::p)
   | none=>none
  | none=>none
theorem iV {h:Hp} {rv rv':Value} {j:Nat} (hj:bW h rv [j]=some rv') (p:List Nat):bW h rv (j::p)=bW h rv' p:=by
 cases p with
 | nil=>rw [hj];rfl
 | cons k p =>
  cases hb:je rv with
  | none=>simp [bW,hb] at hj
  | some x =>
   obtain ⟨g,o⟩:=x
   simp only [bW,hb] at hj ⊢
   rw [hj]
theorem vH {h:Hp} {rv rv':Value} {p:List Nat} (hp:bW h rv p=some rv') (r:List Nat):bW h rv (p++r)=bW h rv' r:=by
 induction p generalizing rv with
 | nil=>simp only [bW,bY] at hp;subst hp;rfl
 | cons j p ih =>
  cases hj:bW h rv [j] with
  | none =>
   cases p with
   | nil=>rw [hj] at hp;cases hp
   | cons k p =>
    cases hb:je rv with
    | none=>simp [bW,hb] at hp
    | some x =>
     obtain ⟨g,o⟩:=x
     simp only [bW,hb] at hj hp
     rw [hj] at hp;cases hp
  | some v =>
   rw [iV hj] at hp
   rw [List.cons_append,iV hj,ih hp]
def isNode:HV->Prop
 | .osl ..=>True
 | .optr _=>True
 | .omap ..=>True
 | .oitr ..=>True
 | _=>False
def isPt:HV->Prop
 | .osl ..=>True
 | .optr _=>True
 | _=>False
def isMp:HV->Prop
 | .omap ..=>True
 | .oitr ..=>True
 | _=>False
theorem isMp.node {t:HV} (h:isMp t):isNode t:=by cases t<;>first|trivial|exact h.elim
theorem isPt.node {t:HV} (h:isPt t):isNode t:=by cases t<;>first|trivial|exact h.elim
def RefR (N:Nat) (st:Lk) (loc:Nat->Value) (h:Hp) (v:HV) (rv:Value):Prop :=
 match v with
 | .ref id p sz off n=>id<N/\p.length<=2/\(∃a c,rv=.slice a n c/\n<=c/\(0<n->∃g o,a=some ⟨g,o,none⟩))/\(∀cs,ah (st id) p≠.optr cs)/\∀sz' m cs,ah (st id) p=.osl sz' m cs->sz'=sz/\∃a cap,bW h (loc id) p=some (.slice a m cap) /\
   ((n=0/\∃a',rv=.slice a' 0 0)\/∃g o c,a=some ⟨g,o,none⟩/\rv=.slice (some ⟨g,o+off,none⟩) n c/\off+c*sz=cap*sz/\n<=c/\c<=cap)
 | .pref id p off=>id<N/\p.length<=2/\(∃g o,rv=.pointer (some ⟨g,o,none⟩))/\(isPt (ah (st id) p)->∃rvn g o,bW h (loc id) p=some rvn/\je rvn=some (g,o)/\rv=.pointer (some ⟨g,o+off,none⟩))
 | .mref id p=>id<N/\p.length<=2/\(∃g,rv=.map (some g)\/rv=.pointer (some ⟨g,0,none⟩))/\(∀cs,ah (st id) p≠.optr cs)/\(isMp (ah (st id) p)->bW h (loc id) p=some rv)
 | _=>False
def dH:HV->Option Nat
 | .ref id ..=>some id
 | .pref id ..=>some id
 | .mref id ..=>some id
 | _=>none
structure Fr where
 B:Nat
 F:Nat->Prop
 w0:World
 ok:Nat->Bool
 G:Nat->Prop:=fun _=>False
 A:Nat->Value:=fun _=>undef
def dX (E:Fr) (fp:Nat->List Nat) (w:World) (b:Nat):Prop:=b<w.heap.size/\(b<E.B->E.F b\/E.G b)/\∀id,b ∉ fp id
structure BelowG (B:Nat) (G:Nat->Prop) (w w':World):Prop where
 os:w'.os=w.os
 tape:w'.tape=w.tape
 output:w'.output=w.output
 size:w.heap.size<=w'.heap.size
 block:∀k,k<B->¬ G k->w'.heap[k]?=w.heap[k]?
theorem BelowG.refl (B:Nat) (G:Nat->Prop) (w:World):BelowG B G w w:=⟨rfl,rfl,rfl,aP _,fun _ _ _=>rfl⟩
structure LZ (E:Fr) (a:Act):Prop where
 lt:∀t,E.ok t=true->t<a.tmps.size
 kept:∀t,E.ok t=false->a.tmps.getD t undef=E.A t\/a.tmps.getD t undef=undef
structure Rel (E:Fr) (N:Nat) (sl st:Lk) (loc:Nat->Value) (fp:Nat->List Nat) (a:Act) (w:World):Prop where
 below:BelowG E.B E.G E.w0 w
 base:E.B<=w.heap.size
 size:LZ E a
 tree:∀id,st id≠.dead->OW (dX E fp w) w.heap dA [st id] [loc id] (fp id)
 gone:∀id,st id=.dead->fp id=[]
 new:∀id,N<=id->st id=.dead
 nodup:∀id,(fp id).Nodup
 apart:∀i j,i≠j->∀b∈fp i,b ∉ fp j
 fresh:∀id,∀b∈fp id,E.B<=b\/E.G b
 slots:∀t,OW (dX E fp w) w.heap (RefR N st loc w.heap) [sl t] [a.tmps.getD t undef] []
 defers:a.defers=[]
section
variable {E:Fr} {N:Nat} {sl st:Lk} {loc:Nat->Value} {fp:Nat->List Nat} {a:Act} {w:World}
theorem Rel.lt (hr:Rel E N sl st loc fp a w) (id:Nat):∀b∈fp id,b<w.heap.size:=by
 by_cases h:st id=.dead
 ·rw [hr.gone id h];simp
 ·exact (hr.tree id h).lt
theorem OW.focus1 {F:Nat->Prop} {h:Hp} {t:HV} {rv:Value} {fs:List Nat} (o:OW F h dA [t] [rv] fs) {j:Nat} (hn:isNode (ah t [j])) :
  ∃rv' f1 f' f2,bW h rv [j]=some rv'/\fs=f1++f'++f2/\OW F h dA [ah t [j]] [rv'] f'/\(∃g o,je rv=some (g,o)/\g∈f1) /\
   ∀ (F':Nat->Prop) (h':Hp) t'' f'',(∀b∈f1++f2,h'[b]?=h[b]?)->(∀b,F b->F' b/\h'[b]?=h[b]?) ->
    OW F' h' dA [t''] [rv'] f''->OW F' h' dA [cu t'' t [j]] [rv] (f1++f''++f2):=by
 cases o with
 | osl h1 h2 h3 h4 h5 h6 h7 h8 =>
  rename_i sz n cs g off cap cur e rvs f1 fs'
  cases h8
  simp only [ah] at hn
  have hj:j<cs.length:=by
   rcases dL j cs.length with h|h
   ·exact h
   ·have:cs.getD j .dead=.dead:=by simp [List.getD,jb h]
    rw [this] at hn;exact hn.elim
  obtain ⟨rv',g1,g2,g3,e1,e2,o2,rep⟩:=h7.at j hj
  refine ⟨rv',g::g1,g2,g3,?_,?_,by simpa [ah] using o2,⟨g,off,rfl,by simp⟩,?_⟩
  ·simp only [bW,je,mP,h1]
   rw [h3,oO,if_pos hj] at e1
   simpa using e1
  ·simp [e2]
  ·intro F' h' t'' f'' hb hF on
   have r:=rep F' h' dA t'' rv' f'' (fun b hb'=>hb b (by simp at hb' ⊢;rcases hb' with hb'|hb'<;>simp [hb'])) hF (fun _ _ h=>h) on
   have e3:rvs.set j rv'=rvs:=by
    apply o7
    intro k
    by_cases hk:j=k
    ·subst hk;rw [e1];have:=(zl030.1 e1).1;simp [this]
    ·rw [Bi hk]
   rw [e3] at r
   have:=OW.osl (F:=F') (h:=h') (R:=dA) (sz:=sz) (n:=n) (cs:=cs.set j t'') (e:=e) (cap:=cap) ((hb g (by simp)).trans h1) (by simpa using h2) (by simpa using h3) h4 h5 h6 r .nil
   simpa [cu] using this
 | optr h1 h7 h8 =>
  rename_i cs g cur e f1 fs'
  cases h8
  simp only [ah] at hn
  have hj:j<cs.length:=by
   rcases dL j cs.length with h|h
   ·exact h
   ·have:cs.getD j .dead=.dead:=by simp [List.getD,jb h]
    rw [this] at hn;exact hn.elim
  obtain ⟨rv',g1,g2,g3,e1,e2,o2,rep⟩:=h7.at j hj
  refine ⟨rv',g::g1,g2,g3,?_,?_,by simpa [ah] using o2,⟨g,0,rfl,by simp⟩,?_⟩
  ·simp only [bW,je,mP,h1]
   simpa using e1
  ·simp [e2]
  ·intro F' h' t'' f'' hb hF on
   have r:=rep F' h' dA t'' rv' f'' (fun b hb'=>hb b (by simp at hb' ⊢;rcases hb' with hb'|hb'<;>simp [hb'])) hF (fun _ _ h=>h) on
   have e3:cur.toList.set j rv'=cur.toList:=by
    apply o7
    intro k
    by_cases hk:j=k
    ·subst hk;rw [e1];have:=(zl030.1 e1).1;simp at this;simp [this]
    ·rw [Bi hk]
   rw [e3] at r
   have:=OW.optr (F:=F') (h:=h') (R:=dA) (cs:=cs.set j t'') (e:=e) ((hb g (by simp)).trans h1) r .nil
   simpa [cu] using this
 | omap h1 h2 h7 h8 =>
  rename_i m ks cs g es ck f1 fs'
  cases h8
  simp only [ah] at hn
  have hj:j<cs.length:=by
   rcases dL j cs.length with h|h
   ·exact h
   ·have:cs.getD j .dead=.dead:=by simp [List.getD,jb h]
    rw [this] at hn;exact hn.elim
  obtain ⟨rv',g1,g2,g3,e1,e2,o2,rep⟩:=h7.at j hj
  refine ⟨rv',g::g1,g2,g3,?_,?_,by simpa [ah] using o2,⟨g,0,rfl,by simp⟩,?_⟩
  ·simp only [bW,je,mP,h1]
   simpa using e1
  ·simp [e2]
  ·intro F' h' t'' f'' hb hF on
   have r:=rep F' h' dA t'' rv' f'' (fun b hb'=>hb b (by simp at hb' ⊢;rcases hb' with hb'|hb'<;>simp [hb'])) hF (fun _ _ h=>h) on
   have e3:(es.toList.map (·.val)).set j rv'=es.toList.map (·.val):=by
    apply o7
    intro k
    by_cases hk:j=k
    ·subst hk;rw [e1];have:=(zl030.1 e1).1;rw [List.getElem?_set_self this]
    ·rw [Bi hk]
   rw [e3] at r
   have:=OW.omap (F:=F') (h:=h') (R:=dA) (m:=m) (ks:=ks) (cs:=cs.set j t'') ((hb g (by simp)).trans h1) h2 r .nil
   simpa [cu] using this
 | osl0 _=>simp [ah,isNode] at hn
 | leaf _ _ _ _ _ _ hr _=>exact hr.elim
 | _=>simp [ah,isNode] at hn
theorem nK (t:HV) (p r:List Nat):ah t (p++r)=ah (ah t p) r:=by
 induction p generalizing t with
 | nil=>rfl
 | cons j p ih =>
  have hd:∀r,ah HV.dead r=.dead:=fun r=>by cases r<;>rfl
  cases t<;>simp only [List.cons_append,ah,hd]<;>exact ih _
theorem mG (p:List Nat):ah .dead p=.dead:=by cases p<;>rfl
theorem D8 {t:HV} {j:Nat} {p:List Nat} (hn:isNode (ah t (j::p))):isNode (ah t [j]):=by
 have e:=nK t [j] p
 rw [List.cons_append,List.nil_append] at e
 rw [e] at hn
 cases hh:ah t [j] with
 | osl=>trivial
 | optr=>trivial
 | omap=>trivial
 | oitr=>trivial
 | _=>rw [hh] at hn;cases p<;>exact hn.elim
theorem qp {t x:HV} {j k:Nat} (h:j≠k):ah (cu x t [j]) [k]=ah t [k]:=by
 cases t<;>simp [cu,ah,Bi h]
theorem OW.focus {F:Nat->Prop} {h:Hp} {t:HV} {rv:Value} {fs:List Nat} (o:OW F h dA [t] [rv] fs) {p:List Nat} (hp:p.length<=2) (hn:isNode (ah t p)) :
  ∃rv' f1 f' f2,bW h rv p=some rv'/\fs=f1++f'++f2/\OW F h dA [ah t p] [rv'] f' /\
   (∀h':Hp,(∀b∈f1++f2,h'[b]?=h[b]?)->bW h' rv p=some rv'/\∀q,isNode (ah t q)->q.length<=2->¬ p <+: q->bW h' rv q=bW h rv q)/\(p=[]->f1=[]/\f2=[]) /\
   ∀ (F':Nat->Prop) (h':Hp) t'' f'',(∀b∈f1++f2,h'[b]?=h[b]?)->(∀b,F b->F' b/\h'[b]?=h[b]?) ->
    OW F' h' dA [t''] [rv'] f''->OW F' h' dA [cu t'' t p] [rv] (f1++f''++f2):=by
 have one:∀ {h h':Hp} {rv:Value} {f:List Nat} (j:Nat),(∃g o,je rv=some (g,o)/\g∈f)->(∀b∈f,h'[b]?=h[b]?)->bW h' rv [j]=bW h rv [j]:=by
  rintro h h' rv f j ⟨g,o,hb,hg⟩ hs
  simp only [bW,hb,mP,hs g hg]
 have sib:∀ {t:HV} {rv:Value} {f1 f2:List Nat} {j i l:Nat} {h':Hp},i≠j->OW F h dA [cu .dead t [j]] [rv] (f1++[]++f2)->isNode (ah t [i,l])->(∀b∈f1++f2,h'[b]?=h[b]?)->bW h' rv [i,l]=bW h rv [i,l]:=by
  intro t rv f1 f2 j i l h' hij od hnl hs
  have hni:isNode (ah (cu .dead t [j]) [i]):=by rw [qp (fun e=>hij e.symm)];exact D8 hnl
  obtain ⟨rvi,c1,c',c2,n1,n2,o1,n3,-⟩:=od.focus1 hni
  rw [qp (fun e=>hij e.symm)] at o1
  have hnl2:isNode (ah (ah t [i]) [l]):=by rw [<- nK];exact hnl
  obtain ⟨rvl,d1,d',d2,m1,m2,o2,m3,-⟩:=o1.focus1 hnl2
  have hs1:∀b∈c1,h'[b]?=h[b]?:=fun b hb=>hs b (by
   have:b∈f1++[]++f2:=by rw [n2];simp [hb]
   simpa using this)
  have hs2:∀b∈d1,h'[b]?=h[b]?:=fun b hb=>hs b (by
   have:b∈f1++[]++f2:=by rw [n2,m2];simp [hb]
   simpa using this)
  have e1:=one (h':=h') i n3 hs1
  have e2:=one (h':=h') l m3 hs2
  rw [n1] at e1
  rw [iV n1,iV e1,e2]
 match p,hp with
 | [],_=>exact ⟨rv,[],fs,[],rfl,by simp,by simpa [ah] using o,fun h' _=>⟨rfl,fun q _ _ hq=>absurd (List.nil_prefix) hq⟩,by simp,fun F' h' t'' f'' _ _ hn=>by simpa [cu] using hn⟩
 | [j],_ =>
  obtain ⟨rv',f1,f',f2,e1,e2,o1,e3,rep⟩:=o.focus1 hn
  have hd:=rep F h .dead [] (fun _ _=>rfl) (fun b hb=>⟨hb,rfl⟩) (.dead .nil)
  refine ⟨rv',f1,f',f2,e1,e2,o1,fun h' hs=>⟨(one j e3 fun b hb=>hs b (by simp [hb])).trans e1,fun q hq hl hpq=>?_⟩,by simp,rep⟩
  match q,hl with
  | [],_=>rfl
  | [i],_=>exact one i e3 fun b hb=>hs b (by simp [hb])
  | [i,l],_=>exact sib (fun e=>hpq (by subst e;exact ⟨[l],rfl⟩)) hd hq hs
 | [j,k],_ =>
  have hnj:=D8 hn
  have hnk:isNode (ah (ah t [j]) [k]):=by rw [<- nK];exact hn
  obtain ⟨rv1,a1,a',a2,e1,e2,o1,e3,rep⟩:=o.focus1 hnj
  obtain ⟨rv2,b1,b',b2,d1,d2,o2,d3,rep2⟩:=o1.focus1 hnk
  have hd:=rep F h .dead [] (fun _ _=>rfl) (fun b hb=>⟨hb,rfl⟩) (.dead .nil)
  have hnn:ah (ah t [j]) [k]=ah t [j,k]:=(nK t [j] [k]).symm
  refine ⟨rv2,a1++b1,b',b2++a2,by rw [iV e1,d1],by rw [e2,d2];simp,hnn▸o2,fun h' hs=>?_,by simp,?_⟩
  ·have hs1:∀b∈a1,h'[b]?=h[b]?:=fun b hb=>hs b (by simp [hb])
   have hs2:∀b∈b1,h'[b]?=h[b]?:=fun b hb=>hs b (by simp [hb])
   have hs3:∀b∈a1++a2,h'[b]?=h[b]?:=fun b hb=>hs b (by
    rcases zl001.1 hb with h|h<;>simp [h])
   have f1:=(one (h':=h') j e3 hs1).trans e1
   refine ⟨by rw [iV f1,one k d3 hs2,d1],fun q hq hl hpq=>?_⟩
   match q,hl with
   | [],_=>rfl
   | [i],_=>exact one i e3 hs1
   | [i,l],_ =>
    by_cases hij:i=j
    ·subst hij
     rw [iV f1,iV e1,one l d3 hs2]
    ·exact sib hij hd hq hs3
  ·intro F' h' t'' f'' hs hF on
   have r2:=rep2 F' h' t'' f'' (fun b hb=>hs b (by rcases zl001.1 hb with h|h<;>simp [h])) hF on
   have r1:=rep F' h' _ _ (fun b hb=>hs b (by rcases zl001.1 hb with h|h<;>simp [h])) hF r2
   have en:cu (cu t'' (ah t [j]) [k]) t [j]=cu t'' t [j,k]:=by
    cases t<;>simp [cu,ah]
   rw [en] at r1
   simpa using r1
theorem bV {t:HV} {p:List Nat} (h:isNode (ah t p)):t≠.dead:=by
 intro e;subst e
 cases p<;>simp [ah,isNode] at h
theorem RefR.stay (hr:Rel E N sl st loc fp a w) {N':Nat} {st':Lk} {loc':Nat->Value} {h':Hp} (hN:N<=N') {v:HV} {rv:Value} (hv:RefR N st loc w.heap v rv) {id:Nat} (hid:dH v=some id)
  (h1:st' id=st id) (h2:loc' id=loc id) (h3:∀b∈fp id,h'[b]?=w.heap[b]?):RefR N' st' loc' h' v rv:=by
 have nav:∀p,isNode (ah (st id) p)->p.length<=2->bW h' (loc id) p=bW w.heap (loc id) p:=by
  intro p hn hp
  obtain ⟨rv',f1,f',f2,e1,e2,_,e4,_,_⟩:=(hr.tree id (bV hn)).focus hp hn
  rw [e1]
  exact (e4 h' fun b hb=>h3 b (by rw [e2];rcases zl001.1 hb with h|h<;>simp [h])).1
 cases v<;>simp only [dH,bY,reduceCtorEq] at hid
 ·subst hid
  obtain ⟨a1,a2,a0,a4,a3⟩:=hv
  refine ⟨kM a1 hN,a2,a0,by rw [h1];exact a4,fun sz' m cs hg=>?_⟩
  rw [h1] at hg
  obtain ⟨b1,a',cap,b2,b3⟩:=a3 sz' m cs hg
  refine ⟨b1,a',cap,?_,b3⟩
  rw [h2,nav _ (by rw [hg];trivial) a2];exact b2
 ·subst hid
  obtain ⟨a1,a2,a0,a3⟩:=hv
  refine ⟨kM a1 hN,a2,a0,fun hg=>?_⟩
  rw [h1] at hg
  obtain ⟨rvn,g,o,b1,b2,b3⟩:=a3 hg
  exact ⟨rvn,g,o,by rw [h2,nav _ hg.node a2];exact b1,b2,b3⟩
 ·subst hid
  obtain ⟨a1,a2,a0,a4,a3⟩:=hv
  refine ⟨kM a1 hN,a2,a0,by rw [h1];exact a4,fun hg=>?_⟩
  rw [h1] at hg
  rw [h2,nav _ hg.node a2];exact a3 hg
theorem RefR.isRef {v:HV} {rv:Value} {h:Hp} (hv:RefR N st loc h v rv):∃id,dH v=some id/\id<N:=by
 cases v<;>simp only [RefR] at hv
 ·exact ⟨_,rfl,hv.1⟩
 ·exact ⟨_,rfl,hv.1⟩
 ·exact ⟨_,rfl,hv.1⟩
theorem Rel.step (hr:Rel E N sl st loc fp a w) (G:HV->Prop) (hG:∀t,OW (dX E fp w) w.heap (fun v rv=>RefR N st loc w.heap v rv/\G v) [sl t] [a.tmps.getD t undef] []) (X:Nat->Prop) {N':Nat} {st':Lk} {loc':Nat->Value} {fp':Nat->List Nat} {w':World} (hN:N<=N')
  (hsz:w.heap.size<=w'.heap.size) (hos:w'.os=w.os) (htape:w'.tape=w.tape) (hout:w'.output=w.output)
  (hheap:∀b,b<w.heap.size->(∀id,X id->b ∉ fp id)->w'.heap[b]?=w.heap[b]?)
  (hst:∀id,¬ X id->st' id=st id/\loc' id=loc id/\fp' id=fp id)
  (hX:(∀b,dX E fp w b->dX E fp' w' b/\w'.heap[b]?=w.heap[b]?)->∀id,X id->st' id≠.dead->OW (dX E fp' w') w'.heap dA [st' id] [loc' id] (fp' id))
  (hXd:∀id,X id->st' id=.dead->fp' id=[]) (hXn:∀id,X id->N'<=id->st' id=.dead)
  (hfp:∀id,X id->∀b∈fp' id,(w.heap.size<=b/\b<w'.heap.size)\/∃j,X j/\b∈fp j)
  (hnd:∀id,X id->(fp' id).Nodup) (hap:∀i j,X i->X j->i≠j->∀b∈fp' i,b ∉ fp' j)
  (hR:∀v rv id,RefR N st loc w.heap v rv->G v->dH v=some id->X id->RefR N' st' loc' w'.heap v rv) :
  Rel E N' sl st' loc' fp' a w'/\(∀b,dX E fp w b->dX E fp' w' b/\w'.heap[b]?=w.heap[b]?)/\(∀v rv,RefR N st loc w.heap v rv->G v->RefR N' st' loc' w'.heap v rv):=by
 classical
 have hin:∀id b,b∈fp' id->(w.heap.size<=b/\b<w'.heap.size)\/∃j,b∈fp j/\(X id->X j)/\(¬ X id->j=id):=by
  intro id b hb
  by_cases h:X id
  ·rcases hfp id h b hb with h1|⟨j,hj,h2⟩
   ·exact .inl h1
   ·exact .inr ⟨j,h2,fun _=>hj,fun h3=>absurd h h3⟩
  ·rw [(hst id h).2.2] at hb
   exact .inr ⟨id,hb,fun h3=>absurd h3 h,fun _=>rfl⟩
 have hfz:∀b,dX E fp w b->dX E fp' w' b/\w'.heap[b]?=w.heap[b]?:=by
  intro b ⟨h1,hE,h2⟩
  refine ⟨⟨kM h1 hsz,hE,fun id hb=>?_⟩,hheap b h1 fun id _=>h2 id⟩
  rcases hin id b hb with h3|⟨j,h3,_⟩
  ·omega
  ·exact h2 j h3
 have hR':∀v rv,RefR N st loc w.heap v rv->G v->RefR N' st' loc' w'.heap v rv:=by
  intro v rv hv hg
  obtain ⟨id,hid,_⟩:=hv.isRef
  by_cases h:X id
  ·exact hR v rv id hv hg hid h
  ·refine hv.stay hr hN hid (hst id h).1 (hst id h).2.1 fun b hb=>hheap b (hr.lt id b hb) fun j hj hb'=>?_
   exact hr.apart id j (fun e=>h (e▸hj)) b hb hb'
 refine ⟨?_,hfz,hR'⟩
 refine ⟨⟨by rw [hos];exact hr.below.os,by rw [htape];exact hr.below.tape,by rw [hout];exact hr.below.output,xy hr.below.size hsz,fun k hk hg=>?_⟩,xy hr.base hsz,hr.size,?_,?_,?_,?_,?_,?_,?_,hr.defers⟩
 ·rw [<- hr.below.block k hk hg]
  exact hheap k (kM hk hr.base) fun id _ hb=>by
   rcases hr.fresh id k hb with h|h
   ·omega
   ·exact hg h
 ·intro id hid
  by_cases h:X id
  ·exact hX hfz id h hid
  ·obtain ⟨h1,h2,h3⟩:=hst id h
   rw [h1,h2,h3]
   rw [h1] at hid
   refine (hr.tree id hid).stable (fun b hb=>hheap b (hr.lt id b hb) fun j hj hb'=>hr.apart id j (fun e=>h (e▸hj)) b hb hb') hfz (fun _ _ h=>h.elim)
 ·intro id hid
  by_cases h:X id
  ·exact hXd id h hid
  ·obtain ⟨h1,h2,h3⟩:=hst id h
   rw [h3];rw [h1] at hid;exact hr.gone id hid
 ·intro id hid
  by_cases h:X id
  ·exact hXn id h hid
  ·rw [(hst id h).1];exact hr.new id (xy hN hid)
 ·intro id
  by_cases h:X id
  ·exact hnd id h
  ·rw [(hst id h).2.2];exact hr.nodup id
 ·intro i j hij b hb hb'
  by_cases h1:X i<;>by_cases h2:X j
  ·exact hap i j h1 h2 hij b hb hb'
  ·rw [(hst j h2).2.2] at hb'
   rcases hfp i h1 b hb with h3|⟨k,hk,h3⟩
   ·have:=hr.lt j b hb';omega
   ·exact hr.apart k j (fun e=>h2 (e▸hk)) b h3 hb'
  ·rw [(hst i h1).2.2] at hb
   rcases hfp j h2 b hb' with h3|⟨k,hk,h3⟩
   ·have:=hr.lt i b hb;omega
   ·exact hr.apart k i (fun e=>h1 (e▸hk)) b h3 hb
  ·rw [(hst i h1).2.2] at hb
   rw [(hst j h2).2.2] at hb'
   exact hr.apart i j hij b hb hb'
 ·intro id b hb
  rcases hin id b hb with h3|⟨j,h3,_⟩
  ·exact .inl (xy hr.base h3.1)
  ·exact hr.fresh j b h3
 ·intro t
  exact (hG t).stable (by simp) hfz fun v rv h=>hR' v rv h.1 h.2
theorem Rel.all (hr:Rel E N sl st loc fp a w):∀t,OW (dX E fp w) w.heap (fun v rv=>RefR N st loc w.heap v rv/\True) [sl t] [a.tmps.getD t undef] [] :=
 fun t=>(hr.slots t).stable (fun _ _=>rfl) (fun _ h=>⟨h,rfl⟩) fun _ _ h=>⟨h,trivial⟩
theorem OW.kill {F:Nat->Prop} {h:Hp} {R:HV->Value->Prop} {vs rvs fs} (id len:Nat) (o:OW F h R vs rvs fs):OW F h (fun v rv=>R v rv/\∀i p,(∃sz o n,v=.ref i p sz o n)\/(∃o,v=.pref i p o)\/v=.mref i p->¬ (i=id/\len<p.length)) (nY id len vs) rvs fs:=by
 induction o with
 | nil=>exact .nil
 | @leaf R v rv r rr fs a b c d e f g _ ih =>
  cases v<;>simp [fH] at a b c d e f
  ·rename_i i p sz o n
   simp only [nY,HV.kill]
   split
   ·exact .dead ih
   ·rename_i hc
    exact .leaf rfl (by simp) (by simp) (by simp) (by simp) (by simp) ⟨g,fun i' p' h=>by
     rcases h with ⟨_,_,_,h⟩|⟨_,h⟩|h
     ·simp only [HV.ref.injEq] at h;obtain ⟨rfl,rfl,_⟩:=h;exact hc
     ·cases h
     ·cases h⟩ ih
  ·rename_i i p o
   simp only [nY,HV.kill]
   split
   ·exact .dead ih
   ·rename_i hc
    exact .leaf rfl (by simp) (by simp) (by simp) (by simp) (by simp) ⟨g,fun i' p' h=>by
     rcases h with ⟨_,_,_,h⟩|⟨_,h⟩|h
     ·cases h
     ·simp only [HV.pref.injEq] at h;obtain ⟨rfl,rfl,_⟩:=h;exact hc
     ·cases h⟩ ih
  ·exact .dead ih
  ·rename_i i p
   simp only [nY,HV.kill]
   split
   ·exact .dead ih
   ·rename_i hc
    exact .leaf rfl (by simp) (by simp) (by simp) (by simp) (by simp) ⟨g,fun i' p' h=>by
     rcases h with ⟨_,_,_,h⟩|⟨_,h⟩|h
     ·cases h
     ·cases h
     ·simp only [HV.mref.injEq] at h;obtain ⟨rfl,rfl⟩:=h;exact hc⟩ ih
  ·exact absurd rfl (c _ _ _ _ rfl rfl rfl)
 | int _ ih=>exact .int ih
 | bool _ ih=>exact .bool ih
 | str _ ih=>exact .str ih
 | nils _ ih=>exact .nils ih
 | nilp _ ih=>exact .nilp ih
 | nilf _ ih=>exact .nilf ih
 | dead _ ih=>exact .dead ih
 | sl0 _ ih=>exact .sl0 ih
 | sl a b c d e _ _ ih=>exact .sl a b c d e ih
 | osl0 _ ih=>exact .osl0 ih
 | osl a b c d e f g _ _ ih=>exact .osl a b c d e f g ih
 | ptr a b c d _ _ ih=>exact .ptr a b c d ih
 | optr a b _ _ ih=>exact .optr a b ih
 | nilm _ ih=>exact .nilm ih
 | rmap a b c d _ _ ih=>exact .rmap a b c d ih
 | omap a b c _ _ ih=>exact .omap a b c ih
 | oitr a _ ih=>exact .oitr a ih
 | agg _ _ ih1 ih2=>exact .agg ih1 ih2
 | tup _ _ ih1 ih2=>exact .tup ih1 ih2
 | fn _ _ ih1 ih2=>exact .fn ih1 ih2
theorem Rel.kill (hr:Rel E N sl st loc fp a w) (id len:Nat):Rel E N (fun t=>(sl t).kill id len) st loc fp a w /\
  ∀t,OW (dX E fp w) w.heap (fun v rv=>RefR N st loc w.heap v rv/\∀i p,(∃sz o n,v=.ref i p sz o n)\/(∃o,v=.pref i p o)\/v=.mref i p->¬ (i=id/\len<p.length)) [(sl t).kill id len] [a.tmps.getD t undef] []:=by
 have h:∀t,_:=fun t=>(hr.slots t).kill id len
 exact ⟨⟨hr.below,hr.base,hr.size,hr.tree,hr.gone,hr.new,hr.nodup,hr.apart,hr.fresh,fun t=>(h t).stable (fun _ _=>rfl) (fun _ h=>⟨h,rfl⟩) fun _ _ h=>h.1,hr.defers⟩,h⟩
theorem Rel.put (hr:Rel E N sl st loc fp a w) (d:Option Nat) (hd:∀t,d=some t->E.ok t=true) {v:HV} {rv:Value} (hv:OW (dX E fp w) w.heap (RefR N st loc w.heap) [v] [rv] []) :
  Rel E N (fun t=>if d=some t then v else sl t) st loc fp (a.put d rv) w:=by
 refine ⟨hr.below,hr.base,?_,hr.tree,hr.gone,hr.new,hr.nodup,hr.apart,hr.fresh,fun t=>?_,?_⟩
 ·cases d with
  | none=>exact hr.size
  | some d =>
   refine ⟨fun t ht=>by simpa [Act.put] using hr.size.lt t ht,fun t ht=>?_⟩
   have hne:d≠t:=fun e=>by rw [e] at hd;rw [hd t rfl] at ht;cases ht
   have:=hr.size.kept t ht
   simp only [Act.put,iw,NK hne] at this ⊢
   exact this
 ·cases d with
  | none=>simpa [Act.put] using hr.slots t
  | some d =>
   by_cases h:d=t
   ·subst h
    simp only [if_true,Act.put]
    have hl:d<a.tmps.size:=hr.size.lt d (hd d rfl)
    simpa [hl] using hv
   ·have:¬ (some d=some t):=by simpa using h
    simp only [this,if_false,Act.put]
    have:=hr.slots t
    simpa [NK h] using this
 ·cases d<;>exact hr.defers
theorem Rel.putU (hr:Rel E N sl st loc fp a w) (d:Option Nat):Rel E N (fun t=>if d=some t then .tup [] else sl t) st loc fp (a.put d undef) w:=by
 have hu:OW (dX E fp w) w.heap (RefR N st loc w.heap) [.tup []] [undef] []:=OW.tup .nil .nil
 cases d with
 | none=>exact hr.put none (fun t h=>by cases h) hu
 | some t0 =>
  have hat:(a.put (some t0) undef).tmps.getD t0 undef=undef:=by
   simp only [Act.put,iw,Array.getElem?_setIfInBounds_self]
   split<;>rfl
  have hne:∀t,t0≠t->(a.put (some t0) undef).tmps.getD t undef=a.tmps.getD t undef:=fun t h=>by
   simp only [Act.put,iw,NK h]
  refine ⟨hr.below,hr.base,⟨fun t ht=>by simpa [Act.put] using hr.size.lt t ht,fun t ht=>?_⟩,hr.tree,hr.gone,hr.new,hr.nodup,hr.apart,hr.fresh,fun t=>?_,hr.defers⟩
  ·by_cases h:t0=t
   ·subst h;exact .inr hat
   ·rw [hne t h];exact hr.size.kept t ht
  ·by_cases h:t0=t
   ·subst h
    simp only [if_true]
    rw [hat];exact hu
   ·have h2:¬ some t0=some t:=by simpa using h
    simp only [h2,if_false]
    rw [hne t h];exact hr.slots t
theorem F5 {F:Nat->Prop} {h:Hp} {R:HV->Value->Prop} {rv:Value} (o:OW F h R [.tup []] [rv] []):rv=undef:=by
 generalize hf:([]:List Nat)=fs at o
 cases o with
 | leaf _ _ _ _ h5=>exact absurd rfl (h5 _)
 | tup o1 o2=>have:=o1.length;obtain rfl:=fG this.symm;rfl
theorem OW.mono {F:Nat->Prop} {h:Hp} {R R':HV->Value->Prop} {vs rvs fs} (o:OW F h R vs rvs fs) (hR:∀v rv,R v rv->R' v rv):OW F h R' vs rvs fs:=o.stable (fun _ _=>rfl) (fun _ h=>⟨h,rfl⟩) hR
theorem RefR.up {h:Hp} {N':Nat} (hN:N<=N') {v:HV} {rv:Value} (hv:RefR N st loc h v rv):RefR N' st loc h v rv:=by
 cases v<;>simp only [RefR] at hv ⊢
 ·exact ⟨kM hv.1 hN,hv.2⟩
 ·exact ⟨kM hv.1 hN,hv.2⟩
 ·exact ⟨kM hv.1 hN,hv.2⟩
theorem Rel.up (hr:Rel E N sl st loc fp a w) {N':Nat} (hN:N<=N'):Rel E N' sl st loc fp a w :=
 ⟨hr.below,hr.base,hr.size,hr.tree,hr.gone,fun id h=>hr.new id (xy hN h),hr.nodup,hr.apart,hr.fresh,fun t=>(hr.slots t).mono fun _ _ h=>h.up hN,hr.defers⟩
end
def qF (sl:Lk):List dJ->Lk
 | []=>sl
 | .put _ _::r=>qF sl r
 | .kill id len::r=>qF (fun t=>(sl t).kill id len) r
def bT (sl:Lk):HX->HV
 | .t i=>sl i
 | .c v=>v
def ofVal1:Value->HV
 | .int k n=>.int k n
 | .bool b=>.bool b
 | .string s=>.str s
 | .slice none 0 0=>.nils
 | .pointer none=>.nilp
 | .nilFunc=>.nilf
 | .map none=>.nilm
 | _=>.dead
def ofVal:Value->HV
 | .agg cs=>.agg (cs.toList.map ofVal1)
 | v=>ofVal1 v
def dw:Operand->HX
 | .tmp t=>.t t
 | .const v=>.c (ofVal v)
 | .global _=>.c .dead
 | .func f=>.c (.fn f [])
def After (E:Fr) (N:Nat) (sl st:Lk) (us:List dJ) (v:HV) (rv:Value) (a:Act) (w:World):Prop :=
 ∃loc fp,Rel E N (qF sl us) (Lk.upd st us) loc fp a w/\OW (dX E fp w) w.heap (RefR N (Lk.upd st us) loc w.heap) [v] [rv] []
def Does (P:Program) (m:Sem Next) (w:World) (rv:Value) (w':World):Prop:=m.run P w=.ok (.value rv) w'\/(m.run P w=.ok .skip w'/\rv=undef)
section
variable {F:Nat->Prop} {h:Hp} {R:HV->Value->Prop}
theorem OW.ofVal1 (v:Value):OW F h R [ofVal1 v] [v] []:=by
 unfold HL.ofVal1
 split
 ·exact .int .nil
 ·exact .bool .nil
 ·exact .str .nil
 ·exact .nils .nil
 ·exact .nilp .nil
 ·exact .nilf .nil
 ·exact .nilm .nil
 ·exact .dead .nil
theorem OW.ofVals (l:List Value):OW F h R (l.map HL.ofVal1) l []:=by
 induction l with
 | nil=>exact .nil
 | cons v l ih=>exact (OW.ofVal1 v).cons1 ih
theorem OW.ofVal (v:Value):OW F h R [ofVal v] [v] []:=by
 unfold HL.ofVal
 split
 ·rename_i cs
  have:=OW.agg (F:=F) (h:=h) (R:=R) (OW.ofVals cs.toList) .nil
  simpa using this
 ·exact OW.ofVal1 _
end
theorem Dt (w:World) (o:Obj):(w.alloc o).heap=w.heap.push o:=rfl
theorem dM (w:World) (o:Obj):(w.alloc o).heap.size=w.heap.size+1:=by rw [Dt,Array.size_push]
theorem iH (w:World) (o:Obj) {n:Nat} (h:n=w.heap.size):(w.alloc o).heap[n]?=some o:=by subst h;rw [Dt,Array.getElem?_push];simp
theorem fB (w:World) (o:Obj) {n:Nat} (h:n<w.heap.size):(w.alloc o).heap[n]?=w.heap[n]?:=by rw [Dt,Array.getElem?_push,if_neg (by omega)]
section
variable {P:Program} {E:Fr} {N fr:Nat} {sl st:Lk} {loc:Nat->Value} {fp:Nat->List Nat} {a:Act} {w:World}
theorem Rel.val (hr:Rel E N sl st loc fp a w) (x:Operand):OW (dX E fp w) w.heap (RefR N st loc w.heap) [bT sl (dw x)] [a.eval x] []:=by
 cases x with
 | tmp t=>exact hr.slots t
 | const v=>exact .ofVal v
 | global g=>exact .dead .nil
 | func f=>exact .fn .nil .nil
theorem Rel.vals (hr:Rel E N sl st loc fp a w) (l:List Operand):OW (dX E fp w) w.heap (RefR N st loc w.heap) (l.map fun x=>bT sl (dw x)) (l.map a.eval) []:=by
 induction l with
 | nil=>exact .nil
 | cons x l ih=>exact (hr.val x).cons1 ih
theorem Rel.pure (hr:Rel E N sl st loc fp a w) {M:Nat} (hM:N<=M) {v:HV} {rv:Value} (hv:OW (dX E fp w) w.heap (RefR N st loc w.heap) [v] [rv] []):After E M sl st [] v rv a w :=
 ⟨loc,fp,hr.up hM,hv.mono fun _ _ h=>h.up hM⟩
theorem Rel.make (hr:Rel E N sl st loc fp a w) {fr:Nat} (hfr:N<=fr) {T:HV} {rT:Value} {fT:List Nat} {w':World} (hsz:w.heap.size<=w'.heap.size) (hos:w'.os=w.os) (htape:w'.tape=w.tape) (hout:w'.output=w.output)
  (hheap:∀b,b<w.heap.size->w'.heap[b]?=w.heap[b]?) (hT:OW (fun b=>dX E fp w b) w'.heap dA [T] [rT] fT) (hf:∀b∈fT,w.heap.size<=b/\b<w'.heap.size) (hnd:fT.Nodup) (hTd:T≠.dead) :
  Rel E (fr+1) sl (Lk.upd st [.put fr T]) (fun i=>if i=fr then rT else loc i) (fun i=>if i=fr then fT else fp i) a w' /\
   (∀b,dX E fp w b->dX E (fun i=>if i=fr then fT else fp i) w' b/\w'.heap[b]?=w.heap[b]?) /\
   (∀v rv,RefR N st loc w.heap v rv->RefR (fr+1) (Lk.upd st [.put fr T]) (fun i=>if i=fr then rT else loc i) w'.heap v rv):=by
 have main:=hr.step (fun _=>True) hr.all (fun i=>i=fr) (N':=fr+1) (st':=Lk.upd st [.put fr T]) (loc':=fun i=>if i=fr then rT else loc i) (fp':=fun i=>if i=fr then fT else fp i) (w':=w') (by omega) hsz hos htape hout (fun b hb _=>hheap b hb) ?_ ?_ ?_ ?_ ?_ ?_ ?_ ?_
 ·exact ⟨main.1,main.2.1,fun v rv h=>main.2.2 v rv h trivial⟩
 ·intro id hid;simp [Lk.upd,hid]
 ·intro hfz id hid _
  subst hid
  simp only [Lk.upd,if_true]
  exact hT.stable (fun _ _=>rfl) (fun b hb=>⟨(hfz b hb).1,rfl⟩) (fun _ _ h=>h)
 ·intro id hid hd;subst hid;simp [Lk.upd] at hd;exact absurd hd hTd
 ·intro id hid hd;subst hid;omega
 ·intro id hid b hb;subst hid;simp at hb;exact .inl (hf b hb)
 ·intro id hid;subst hid;simpa using hnd
 ·intro i j hi hj hij;exact absurd (hi.trans hj.symm) hij
 ·intro v rv id hv _ hid hx
  obtain ⟨id',h1,h2⟩:=hv.isRef
  rw [hid] at h1
  cases h1
  omega
theorem Rel.newSl (hr:Rel E N sl st loc fp a w) {fr:Nat} (hfr:N<=fr) {sz n:Nat} {cs:List HV} {cells:Array Value} {e:TypeId} (hc:OW (dX E fp w) w.heap dA cs cells.toList []) (hl:cs.length=n*sz) (hn:n<=maxLen) (w1:World)
  (hw1:w1.heap=w.heap) (hos:w1.os=w.os) (htape:w1.tape=w.tape) (hout:w1.output=w.output) :
  After E (fr+1) sl st [.put fr (.osl sz n cs)] (.ref fr [] sz 0 n) (.slice (some ⟨w.heap.size,0,none⟩) n n) a (w1.alloc (.cells cells e)):=by
 have old:∀b,b<w.heap.size->(w1.alloc (.cells cells e)).heap[b]?=w.heap[b]?:=fun b hb=>by rw [fB _ _ (by rw [hw1];exact hb),hw1]
 have hsz:(w1.alloc (.cells cells e)).heap.size=w.heap.size+1:=by rw [dM,hw1]
 have hT:OW (fun b=>dX E fp w b) (w1.alloc (.cells cells e)).heap dA [.osl sz n cs] [.slice (some ⟨w.heap.size,0,none⟩) n n] [w.heap.size]:=by
  have hlen:=hc.length
  have:=OW.osl (F:=dX E fp w) (h:=(w1.alloc (.cells cells e)).heap) (R:=dA) (sz:=sz) (n:=n) (cs:=cs) (g:=w.heap.size) (off:=0) (cap:=n) (cur:=cells) (e:=e) (rvs:=cells.toList) (f1:=[]) (r:=[]) (rr:=[]) (fs:=[])
   (iH _ _ (by rw [hw1])) hl (by rw [hlen];simp [mW]) (by simp at hlen;omega) (aP _) hn
   (hc.stable (by simp) (fun b hb=>⟨hb,old b hb.1⟩) (fun _ _ h=>h)) .nil
  simpa using this
 obtain ⟨h1,h2,h3⟩:=hr.make hfr (T:=.osl sz n cs) (rT:=.slice (some ⟨w.heap.size,0,none⟩) n n) (fT:=[w.heap.size]) (w':=w1.alloc (.cells cells e)) (by omega) hos htape hout
  old hT (by simp [hsz]) (by simp) (by simp)
 refine ⟨_,_,h1,.leaf rfl (by simp) (by simp) (by simp) (by simp) (by simp) ?_ .nil⟩
 refine ⟨by omega,by simp,⟨_,n,rfl,aP _,fun _=>⟨_,_,rfl⟩⟩,by simp [ah,Lk.upd],fun sz' m cs' hg=>?_⟩
 simp only [ah,Lk.upd,if_true,HV.osl.injEq] at hg
 obtain ⟨rfl,rfl,rfl⟩:=hg
 exact ⟨rfl,some ⟨w.heap.size,0,none⟩,n,by simp [bW],.inr ⟨_,0,n,rfl,by simp,by simp,aP _,aP _⟩⟩
theorem Gj (hr:Rel E N sl st loc fp a w) (hfr:N<=fr) (nz:Nat) (x:Operand) :
  After E (fr+1) sl st (ae st fr (.mv nz (bT sl (dw x)))).2.1 (ae st fr (.mv nz (bT sl (dw x)))).1 (a.eval x) a w:=by
 have hv:=hr.val x
 generalize bT sl (dw x)=v at *
 generalize a.eval x=rv at *
 have pure1:After E (fr+1) sl st [] v rv a w:=hr.pure (by omega) hv
 cases nz with
 | zero=>simpa only [ae] using pure1
 | succ k =>
  cases v<;>(first|(simpa only [ae] using pure1)|skip)
  cases hv with
  | leaf h1=>cases h1
  | nils _ =>
   simp only [ae]
   obtain ⟨h1,h2,h3⟩:=hr.make hfr (T:=.osl (k+1) 0 []) (rT:=.slice none 0 0) (fT:=[]) (w':=w) (aP _) rfl rfl rfl (fun _ _=>rfl) (.osl0 .nil) (by simp) (by simp) (by simp)
   refine ⟨_,_,h1,.leaf rfl (by simp) (by simp) (by simp) (by simp) (by simp) ?_ .nil⟩
   refine ⟨by omega,by simp,⟨none,0,rfl,aP _,by simp⟩,by simp [ah,Lk.upd],fun sz' m cs hg=>?_⟩
   simp [ah,Lk.upd] at hg
   obtain ⟨rfl,rfl,rfl⟩:=hg
   exact ⟨rfl,none,0,by simp [bW],.inl ⟨rfl,none,rfl⟩⟩
theorem fV {F:Nat->Prop} {h:Hp} {R:HV->Value->Prop} {rv:Value} {fs} (o:OW F h R [.nils] [rv] fs):rv=.slice none 0 0:=by
 cases o with
 | leaf h1=>cases h1
 | nils=>rfl
theorem of_int {F:Nat->Prop} {h:Hp} {R:HV->Value->Prop} {rv:Value} {fs k n} (o:OW F h R [.int k n] [rv] fs):rv=.int k n:=by
 cases o with
 | leaf h1=>cases h1
 | int=>rfl
theorem of_bool {F:Nat->Prop} {h:Hp} {R:HV->Value->Prop} {rv:Value} {fs b} (o:OW F h R [.bool b] [rv] fs):rv=.bool b:=by
 cases o with
 | leaf h1=>cases h1
 | bool=>rfl
theorem Hg {F:Nat->Prop} {h:Hp} {R:HV->Value->Prop} {op:BinOp} {t:TypeId} {x y:Operand} {u v:HV} {ru rv:Value} (hu:OW F h R [u] [ru] []) (hv:OW F h R [v] [rv] []) (hvc:(DC op u v).2) :
  ∃r,(do eqGuard op t x y ru rv;binOp op t ru rv:Sem Value).run P w=.ok r w/\OW F h R [(DC op u v).1] [r] []:=by
 cases u<;>cases v<;>simp only [DC] at hvc<;>(first|exact hvc.elim|skip)
 rename_i k p k' q
 obtain rfl:=of_int hu
 obtain rfl:=of_int hv
 cases op<;>simp only [DC] at hvc ⊢<;>(first|exact hvc.elim|skip)
 case shl =>
  have h1:¬ q<0:=by omega
  refine ⟨_,?_,.int .nil⟩
  simp [eqGuard,binOp,Op.shift,h1,go_sem]
 case shr =>
  have h1:¬ q<0:=by omega
  refine ⟨_,?_,.int .nil⟩
  simp [eqGuard,binOp,Op.shift,h1,go_sem]
 case and=>subst hvc;refine ⟨_,?_,.int .nil⟩;simp [eqGuard,binOp,Op.intBits,go_sem]
 case or=>subst hvc;refine ⟨_,?_,.int .nil⟩;simp [eqGuard,binOp,Op.intBits,go_sem]
 case xor=>subst hvc;refine ⟨_,?_,.int .nil⟩;simp [eqGuard,binOp,Op.intBits,go_sem]
 all_goals (first|subst hvc|(obtain ⟨rfl,hvc⟩:=hvc))
 all_goals simp [eqGuard,binOp,Op.intArith,Op.intDiv,Op.intCmp,go_sem, *]
 all_goals (first|exact .int .nil|exact .bool .nil)
theorem run_equalIn_bool (d:Nat) {t:TypeId} (p q:Bool) (h:P.underlying t=some .bool):(Op.equalIn (d+1) t (.bool p) (.bool q)).run P w=.ok (p==q) w:=by
 simp [Op.equalIn,run_underlying h]
theorem run_equal_bool {t:TypeId} (p q:Bool) (h:P.underlying t=some .bool):(Op.equal t (.bool p) (.bool q)).run P w=.ok (p==q) w:=run_equalIn_bool 9999 p q h
theorem JQ {F:Nat->Prop} {h:Hp} {R:HV->Value->Prop} {ne:Bool} {t:TypeId} {x y:Operand} {u v:HV} {ru rv:Value} (hu:OW F h R [u] [ru] []) (hv:OW F h R [v] [rv] [])
  (ht:P.underlying t=some .bool) {L:Lk} (hvc:(ae L fr (.beq ne u v)).2.2) :
  ∃r,(do eqGuard (if ne then .neq else .eql) t x y ru rv;binOp (if ne then .neq else .eql) t ru rv:Sem Value).run P w=.ok r w/\OW F h R [(ae L fr (.beq ne u v)).1] [r] []:=by
 cases u<;>cases v<;>simp only [ae] at hvc<;>(first|exact hvc.elim|skip)
 rename_i p q
 obtain rfl:=of_bool hu
 obtain rfl:=of_bool hv
 have he:=run_equal_bool (w:=w) p q ht
 cases ne
 ·refine ⟨.bool (p==q),?_,by simpa [ae] using OW.bool .nil⟩
  simp [eqGuard,binOp,he,go_sem]
 ·refine ⟨.bool (!(p==q)),?_,by simpa [ae] using OW.bool .nil⟩
  simp [eqGuard,binOp,he,go_sem]
end
section
variable {F:Nat->Prop} {h:Hp} {R:HV->Value->Prop}
theorem OW.win {cs rvs} (o:OW F h R cs rvs []) (off m:Nat):OW F h R (win cs off m) ((rvs.drop off).take m) []:=by
 have hl:=o.length
 unfold HL.win
 split
 ·rename_i hc
  obtain ⟨rfl,rfl⟩:=hc
  rw [hl,List.drop_zero,lV];exact o
 ·have h1:cs=cs.take off++cs.drop off:=by simp
  rw [h1] at o
  obtain ⟨ru,rw',f1,f2,e1,e2,e3,o1,o2⟩:=OW.splitAt o
  obtain ⟨rfl,rfl⟩:f1=[]/\f2=[]:=by simpa using e2.symm
  have h2:cs.drop off=(cs.drop off).take m++(cs.drop off).drop m:=(yc m _).symm
  rw [h2] at o2
  obtain ⟨ru2,rw2,f1,f2,e4,e5,e6,o3,o4⟩:=OW.splitAt o2
  obtain ⟨rfl,rfl⟩:f1=[]/\f2=[]:=by simpa using e5.symm
  have h3:(rvs.drop off).take m=ru2:=by
   subst e1;subst e4
   rw [gB] at e3 e6
   have l2:=o3.length
   have l4:=o4.length
   simp only [gB,lT] at l2 l4 e6
   rcases dL off cs.length with h|h
   ·have e3':ru.length=off:=by omega
    rw [<- e3',List.drop_left]
    rcases dL m (cs.length - off) with h'|h'
    ·have:ru2.length=m:=by omega
     rw [<- this,List.take_left]
    ·have:rw2=[]:=fG (by omega)
     subst this
     simp only [List.append_nil]
     exact mW (by omega)
   ·have:ru2=[]:=fG (by omega)
    have:rw2=[]:=fG (by omega)
    subst_vars
    simp only [List.append_nil]
    rw [Cj (by omega)];simp
  rw [h3];exact o3
theorem OW.get {cs rvs} (o:OW F h R cs rvs []) (j:Nat) (hj:j<cs.length):∃rv,rvs[j]?=some rv/\OW F h R [cs.getD j .dead] [rv] []:=by
 obtain ⟨rv,f1,f2,f3,e1,e2,o2,_⟩:=o.at j hj
 obtain ⟨rfl,rfl,rfl⟩:f1=[]/\f2=[]/\f3=[]:=by simpa using e2.symm
 exact ⟨rv,e1,o2⟩
theorem zq {cs rv} (o:OW F h R [.agg cs] [rv] []):∃rvs,rv=.agg rvs.toArray/\OW F h R cs rvs []:=by
 generalize hfs:([]:List Nat)=fs at o
 cases o with
 | leaf _ _ _ h1=>exact absurd rfl (h1 _)
 | agg h1 h2 =>
  obtain ⟨rfl,rfl⟩:_=[]/\_=[]:=by simpa using hfs.symm
  exact ⟨_,rfl,h1⟩
theorem Lp {cs rv} (o:OW F h R [.tup cs] [rv] []):∃rvs,rv=.tuple rvs.toArray/\OW F h R cs rvs []:=by
 generalize hfs:([]:List Nat)=fs at o
 cases o with
 | leaf _ _ _ _ h1=>exact absurd rfl (h1 _)
 | tup h1 h2 =>
  obtain ⟨rfl,rfl⟩:_=[]/\_=[]:=by simpa using hfs.symm
  exact ⟨_,rfl,h1⟩
theorem Ae {f cs rv} (o:OW F h R [.fn f cs] [rv] []):∃rvs,rv=.func (.func f) #[] rvs.toArray/\OW F h R cs rvs []:=by
 generalize hfs:([]:List Nat)=fs at o
 cases o with
 | leaf _ _ _ _ _ h1=>exact absurd rfl (h1 _ _)
 | fn h1 h2 =>
  obtain ⟨rfl,rfl⟩:_=[]/\_=[]:=by simpa using hfs.symm
  exact ⟨_,rfl,h1⟩
theorem xM {n cs rv fs} (o:OW F h R [.sl n cs] [rv] fs):(n=0/\cs=[]/\∃a cap,rv=.slice a 0 cap) \/
  ∃g off cap cur e fr,rv=.slice (some ⟨g,off,none⟩) n cap/\F g/\h[g]?=some (.cells cur e fr)/\n<=cap/\OW F h dA cs ((cur.toList.drop off).take cs.length) []:=by
 cases o with
 | leaf h1=>cases h1
 | sl0 _=>exact .inl ⟨rfl,rfl,_,_,rfl⟩
 | sl a b c x d _=>subst c;exact .inr ⟨_,_,_,_,_,_,rfl,a,b,x,d⟩
theorem DU {cs off rv fs} (o:OW F h R [.ptr cs off] [rv] fs):∃g base cur e fr,rv=.pointer (some ⟨g,base+off,none⟩)/\F g/\h[g]?=some (.cells cur e fr)/\OW F h dA cs ((cur.toList.drop base).take cs.length) []:=by
 cases o with
 | leaf h1=>cases h1
 | ptr a b c d _=>subst c;exact ⟨_,_,_,_,_,rfl,a,b,d⟩
theorem kS {id p sz off n rv fs} (o:OW F h R [.ref id p sz off n] [rv] fs):R (.ref id p sz off n) rv:=by
 cases o with
 | leaf _ _ _ _ _ _ h1=>exact h1
theorem nU {id p off rv fs} (o:OW F h R [.pref id p off] [rv] fs):R (.pref id p off) rv:=by
 cases o with
 | leaf _ _ _ _ _ _ h1=>exact h1
theorem cZ {v rv} (h1:(dH v).isSome=true) (hr:R v rv):OW F h R [v] [rv] []:=by
 cases v<;>simp [dH] at h1
 ·exact .leaf rfl (by simp) (by simp) (by simp) (by simp) (by simp) hr .nil
 ·exact .leaf rfl (by simp) (by simp) (by simp) (by simp) (by simp) hr .nil
 ·exact .leaf rfl (by simp) (by simp) (by simp) (by simp) (by simp) hr .nil
theorem yN {id p rv fs} (o:OW F h R [.mref id p] [rv] fs):R (.mref id p) rv:=by
 cases o with
 | leaf _ _ _ _ _ _ h1=>exact h1
end
section
variable {P:Program} {E:Fr} {N fr:Nat} {sl st:Lk} {loc:Nat->Value} {fp:Nat->List Nat} {a:Act} {w:World} {o:Oper}
def gU:TypeDesc->Bool
 | .struct _=>true
 | .array _ _=>true
 | _=>false
abbrev V (E:Fr) (N:Nat) (st:Lk) (loc:Nat->Value) (fp:Nat->List Nat) (w:World) (v:HV) (rv:Value):Prop:=OW (dX E fp w) w.heap (RefR N st loc w.heap) [v] [rv] []
theorem mD {t:TypeId} {d:TypeDesc} (h:P.underlying t=some d):(isAgg t).run P w=.ok (gU d) w:=by
 cases d<;>simp [isAgg,run_underlying h,gU,go_sem]
theorem Hq {F:Nat->Prop} {hp:Hp} {R:HV->Value->Prop} {t:TypeId} {d:TypeDesc} {i:TypeInfo} (hd:P.underlying t=some d) (hi:P.info? t=some i) {cs rvs} (hv:OW F hp R cs rvs []) (off:Nat)
  (hvc:if gU d then off+i.size<=cs.length else off<cs.length) :
  ∃rv,(part t rvs.toArray off).run P w=.ok rv w/\OW F hp R [if gU d then .agg (win cs off i.size) else cs.getD off .dead] [rv] []:=by
 have hl:=hv.length
 by_cases hA:gU d=true
 ·simp only [hA,if_true] at hvc ⊢
  refine ⟨.agg ((rvs.drop off).take i.size).toArray,?_,.agg (hv.win off i.size) .nil⟩
  simp [part,mD hd,hA,sizeOf,typeInfo,hi,go_sem]
 ·simp only [hA] at hvc ⊢
  obtain ⟨rv,h1,h2⟩:=hv.get off hvc
  refine ⟨rv,?_,h2⟩
  simp [part,mD hd,hA,h1,go_sem]
theorem Hy {u v c:HV} {ru rv rc:Value} (hc:V E N st loc fp w c rc) (hu:V E N st loc fp w u ru) (hv:V E N st loc fp w v rv) {L:Lk} (hvc:(ae L fr (.pick c u v)).2.2) :
  ∃r,(do pure (.value (if <- asBool rc then ru else rv)):Sem Next).run P w=.ok (.value r) w/\V E N st loc fp w (ae L fr (.pick c u v)).1 r/\(ae L fr (.pick c u v)).2.1=[]:=by
 cases c<;>(first|(exact absurd hvc id)|skip)
 rename_i t
 obtain rfl:=of_bool hc
 refine ⟨if t then ru else rv,by cases t<;>simp [asBool,go_sem],?_⟩
 have gen:V E N st loc fp w (if t then u else v) (if t then ru else rv):=by cases t<;>simpa
 cases u<;>cases v<;>simp only [ae]<;>(first|exact ⟨gen,trivial⟩|skip)
 rename_i p q
 refine ⟨?_,trivial⟩
 obtain rfl:=of_bool hu
 obtain rfl:=of_bool hv
 cases t<;>simpa using OW.bool .nil
theorem L6 {op:UnOp} {v:HV} {rv:Value} (hv:V E N st loc fp w v rv) {L:Lk} (hvc:(ae L fr (.un op v)).2.2) :
  ∃r,(Op.unary op rv).run P w=.ok r w/\V E N st loc fp w (ae L fr (.un op v)).1 r/\(ae L fr (.un op v)).2.1=[]:=by
 cases op<;>cases v<;>simp only [ae] at hvc ⊢<;>(first|exact hvc.elim|skip)
 ·obtain rfl:=of_int hv
  exact ⟨_,by simp [Op.unary,Op.intArith,go_sem],.int .nil,trivial⟩
 ·obtain rfl:=of_bool hv
  exact ⟨_,by simp [Op.unary,go_sem],.bool .nil,trivial⟩
theorem G7 {s t:TypeId} {ds:TypeDesc} {k:IntKind} {v:HV} {rv:Value} (hs:P.underlying s=some ds) (ht:P.underlying t=some (.int k)) (hv:V E N st loc fp w v rv) {L:Lk} (hvc:(ae L fr (.conv k v)).2.2) :
  ∃r,(convert s t rv).run P w=.ok r w/\V E N st loc fp w (ae L fr (.conv k v)).1 r/\(ae L fr (.conv k v)).2.1=[]:=by
 cases v<;>simp only [ae] at hvc ⊢<;>(first|exact hvc.elim|skip)
 obtain rfl:=of_int hv
 exact ⟨_,by simp [convert,run_underlying hs,run_underlying ht,Conv.intToInt,go_sem],.int .nil,trivial⟩
theorem KG {i:Nat} {v:HV} {rv:Value} (hv:V E N st loc fp w v rv) {L:Lk} (hvc:(ae L fr (.ext v i)).2.2) :
  ∃r,(Instr.extract rv i).run P w=.ok r w/\V E N st loc fp w (ae L fr (.ext v i)).1 r/\(ae L fr (.ext v i)).2.1=[]:=by
 cases v<;>simp only [ae] at hvc ⊢<;>(first|exact hvc.elim|skip)
 obtain ⟨rvs,rfl,ho⟩:=Lp hv
 obtain ⟨r,h1,h2⟩:=ho.get i hvc
 exact ⟨r,by simp [Instr.extract,h1,go_sem],h2,trivial⟩
theorem KD {t:TypeId} {fs:Array Field} {f:Field} {k:Nat} {d:TypeDesc} {i:TypeInfo} (ht:P.underlying t=some (.struct fs)) (hf:fs[k]?=some f) (hd:P.underlying f.type=some d) (hi:P.info? f.type=some i)
  {v:HV} {rv:Value} (hv:V E N st loc fp w v rv) {L:Lk} (hvc:(ae L fr (.fld (gU d) i.size f.offset v)).2.2) :
  ∃r,(Instr.field t rv k).run P w=.ok r w/\V E N st loc fp w (ae L fr (.fld (gU d) i.size f.offset v)).1 r/\(ae L fr (.fld (gU d) i.size f.offset v)).2.1=[]:=by
 cases v<;>simp only [ae] at hvc ⊢<;>(first|exact hvc.elim|skip)
 obtain ⟨rvs,rfl,ho⟩:=zq hv
 rename_i cs
 obtain ⟨r,h1,h2⟩:=Hq (P:=P) (w:=w) hd hi ho f.offset (by cases hA:gU d<;>simpa [hA] using hvc)
 refine ⟨r,by simpa [Instr.field,run_underlying ht,hf,asAgg,go_sem] using h1,?_⟩
 cases hA:gU d<;>simp only [hA,if_true] at h2 ⊢<;>exact ⟨h2,by simp⟩
theorem Gp {v:HV} {rv:Value} (hv:V E N st loc fp w v rv) {L:Lk} (hvc:(ae L fr (.nilck v)).2.2) :
  (ae L fr (.nilck v)).1=v/\(ae L fr (.nilck v)).2.1=[]/\((∃a,rv=.pointer (some a))\/∃f c,rv=.func (.func f) #[] c):=by
 cases v<;>simp only [ae] at hvc ⊢<;>(first|exact hvc.elim|skip)
 ·obtain ⟨g,b,_,_,_,rfl,_⟩:=DU hv;exact ⟨trivial,trivial,.inl ⟨_,rfl⟩⟩
 ·obtain ⟨rvs,rfl,_⟩:=Ae hv;exact ⟨trivial,trivial,.inr ⟨_,_,rfl⟩⟩
 ·obtain ⟨_,_,⟨g,o,rfl⟩,_⟩:=nU hv;exact ⟨trivial,trivial,.inl ⟨_,rfl⟩⟩
theorem rJ (g o n:Nat):(⟨g,o,none⟩:Addr).add n=⟨g,o+n,none⟩:=by
 unfold Addr.add;split<;>simp_all
theorem EM {t:TypeId} {fs:Array Field} {f:Field} {k:Nat} (ht:P.underlying t=some (.struct fs)) (hf:fs[k]?=some f) {v:HV} {rv:Value} (hv:V E N st loc fp w v rv) {L:Lk} (hvc:(ae L fr (.faddr f.offset v)).2.2)
  {i:TypeInfo} (hi:P.info? f.type=some i) (hz:i.size≠0) :
  ∃r,(Instr.fieldAt t rv k).run P w=.ok r w/\V E N st loc fp w (ae L fr (.faddr f.offset v)).1 r/\(ae L fr (.faddr f.offset v)).2.1=[]:=by
 cases v<;>simp only [ae] at hvc ⊢<;>(first|exact hvc.elim|skip)
 ·rename_i cs off
  obtain ⟨g,b,cur,e,fz,rfl,h1,h2,h3⟩:=DU hv
  refine ⟨.pointer (some ⟨g,b+off+f.offset,none⟩),by simp [Instr.fieldAt,run_underlying ht,hf,Instr.sureAddr,fieldPlace,sizeOf,typeInfo,hi,hz,rJ,go_sem],?_,trivial⟩
  rw [uw]
  exact .ptr h1 h2 rfl h3 .nil
 ·obtain ⟨h1,h2,⟨g,o,rfl⟩,h4⟩:=nU hv
  refine ⟨.pointer (some ⟨g,o+f.offset,none⟩),by simp [Instr.fieldAt,run_underlying ht,hf,Instr.sureAddr,fieldPlace,sizeOf,typeInfo,hi,hz,rJ,go_sem],cZ rfl ⟨h1,h2,⟨_,_,rfl⟩,fun hn=>?_⟩,trivial⟩
  obtain ⟨rvn,g',o',b1,b2,b3⟩:=h4 hn
  refine ⟨rvn,g',o',b1,b2,?_⟩
  simp only [Value.pointer.injEq,bY,Addr.mk.injEq,and_true] at b3 ⊢
  omega
theorem FI {t e:TypeId} {i:TypeInfo} (ht:P.underlying t=some (.slice e)) (hi:P.info? e=some i) {u v:HV} {ru rv:Value} (hu:V E N st loc fp w u ru) (hv:V E N st loc fp w v rv) {L:Lk} (hvc:(ae L fr (.iaddr i.size u v)).2.2) :
  ∃r,(Instr.indexAt t ru rv).run P w=.ok r w/\V E N st loc fp w (ae L fr (.iaddr i.size u v)).1 r/\(ae L fr (.iaddr i.size u v)).2.1=[]:=by
 cases v<;>simp only [ae] at hvc ⊢<;>(first|exact hvc.elim|skip)
 rename_i k j
 obtain rfl:=of_int hv
 cases u<;>simp only at hvc ⊢<;>(first|exact hvc.elim|skip)
 ·rename_i n cs
  rcases xM hu with ⟨rfl,rfl,_⟩|⟨g,off,cap,cur,e',fz,rfl,h1,h2,_,h3⟩
  ·exfalso;have:=hvc.1;have:=hvc.2;simp at *;omega
  ·refine ⟨.pointer (some ⟨g,off+j.toNat*i.size,none⟩),?_,.ptr h1 h2 rfl h3 .nil,trivial⟩
   simp [Instr.indexAt,asIntOf,run_underlying ht,hvc.1,hvc.2,sizeOf,typeInfo,hi,rJ,go_sem]
 ·rename_i id p sz off n
  obtain ⟨h1,h2,⟨a',c,rfl,hc,h0⟩,h5,h4⟩:=kS hu
  obtain ⟨hj0,hjn,rfl⟩:=hvc
  obtain ⟨g,o,rfl⟩:=h0 (by omega)
  refine ⟨.pointer (some ⟨g,o+j.toNat*i.size,none⟩),by simp [Instr.indexAt,asIntOf,run_underlying ht,hj0,hjn,sizeOf,typeInfo,hi,rJ,go_sem],cZ rfl ⟨h1,h2,⟨_,_,rfl⟩,fun hn=>?_⟩,trivial⟩
  generalize hg:ah (st id) p=t at *
  cases t<;>simp only [isPt] at hn
  ·obtain ⟨_,a,cap,b1,b2⟩:=h4 _ _ _ rfl
   rcases b2 with ⟨rfl,_⟩|⟨g',o',c',rfl,b3,_⟩
   ·omega
   ·refine ⟨_,g',o',b1,rfl,?_⟩
    simp only [Value.slice.injEq,bY,Addr.mk.injEq,and_true,Value.pointer.injEq] at b3 ⊢
    omega
  ·exact absurd rfl (h5 _)
end
section
variable {F:Nat->Prop} {h:Hp} {R:HV->Value->Prop}
theorem OW.cells {v rv} (o:OW F h R [v] [rv] []) (hd:v≠.dead) (hR:∀v rv,R v rv->rv.cells=#[rv]):OW F h R (cellsOf v) rv.cells.toList []:=by
 cases v with
 | agg cs =>
  obtain ⟨rvs,rfl,ho⟩:=zq o
  simpa [cellsOf,Value.cells] using ho
 | dead=>exact absurd rfl hd
 | int=>obtain rfl:=of_int o;simpa [cellsOf,Value.cells] using o
 | bool=>obtain rfl:=of_bool o;simpa [cellsOf,Value.cells] using o
 | tup cs=>obtain ⟨rvs,rfl,ho⟩:=Lp o;simpa [cellsOf,Value.cells] using o
 | fn f cs=>obtain ⟨rvs,rfl,ho⟩:=Ae o;simpa [cellsOf,Value.cells] using o
 | ref=>have:=hR _ _ (kS o);simpa [cellsOf,this] using o
 | pref=>have:=hR _ _ (nU o);simpa [cellsOf,this] using o
 | str=>cases o with
  | leaf h1=>cases h1
  | str=>simpa [cellsOf,Value.cells] using OW.str .nil
 | nils=>cases o with
  | leaf h1=>cases h1
  | nils=>simpa [cellsOf,Value.cells] using OW.nils .nil
 | nilp=>cases o with
  | leaf h1=>cases h1
  | nilp=>simpa [cellsOf,Value.cells] using OW.nilp .nil
 | nilf=>cases o with
  | leaf h1=>cases h1
  | nilf=>simpa [cellsOf,Value.cells] using OW.nilf .nil
 | sl=>rcases xM o with ⟨_,_,_,_,rfl⟩|⟨_,_,_,_,_,_,rfl,_⟩<;>simpa [cellsOf,Value.cells] using o
 | ptr=>obtain ⟨_,_,_,_,_,rfl,_⟩:=DU o;simpa [cellsOf,Value.cells] using o
 | osl=>generalize hfs:([]:List Nat)=fs at o;cases o with
  | leaf h1 h2=>exact absurd rfl (h2 _ _ _)
  | osl0=>subst hfs;simpa [cellsOf,Value.cells] using OW.osl0 .nil
  | osl=>simp at hfs
 | optr=>generalize hfs:([]:List Nat)=fs at o;cases o with
  | leaf h1 h2 h3=>exact absurd rfl (h3.1 _)
  | optr=>simp at hfs
 | omap=>generalize hfs:([]:List Nat)=fs at o;cases o with
  | leaf h1 h2 h3=>exact absurd rfl (h3.2.1 _ _ _)
  | omap=>simp at hfs
 | oitr=>generalize hfs:([]:List Nat)=fs at o;cases o with
  | leaf h1 h2 h3=>exact absurd rfl (h3.2.2 _ _ _ _)
  | oitr=>simp at hfs
 | mref=>have:=hR _ _ (yN o);simpa [cellsOf,this] using o
 | nilm=>cases o with
  | leaf h1=>cases h1
  | nilm=>simpa [cellsOf,Value.cells] using OW.nilm .nil
 | rmap=>cases o with
  | leaf h1=>cases h1
  | rmap a b c d _=>simpa [cellsOf,Value.cells] using OW.rmap a b c d .nil
def bJ (rs:List Value) (off:Nat):List Value->List Value
 | []=>rs
 | v::r=>bJ (rs.set off v) (off+1) r
theorem qU (cs:List HV) (off:Nat) (vs:List HV):(setFrom cs off vs).length=cs.length:=by
 induction vs generalizing cs off with
 | nil=>rfl
 | cons v vs ih=>rw [setFrom,ih];simp
theorem OW.setFrom {cs rs vs rvs} (o:OW F h R cs rs []) (o2:OW F h R vs rvs []) (off:Nat) (hl:off+vs.length<=cs.length):OW F h R (setFrom cs off vs) (bJ rs off rvs) []:=by
 induction vs generalizing cs rs rvs off with
 | nil =>
  cases rvs with
  | nil=>exact o
  | cons=>exact absurd o2.length (by simp)
 | cons v vs ih =>
  cases rvs with
  | nil=>exact absurd o2.length (by simp)
  | cons rv rvs =>
   obtain ⟨f1,f2,e1,o3,o4⟩:=o2.split1
   obtain ⟨rfl,rfl⟩:f1=[]/\f2=[]:=by simpa using e1.symm
   simp only [List.length_cons] at hl
   obtain ⟨rv0,g1,g2,g3,_,e2,_,rep⟩:=o.at off (by omega)
   obtain ⟨rfl,rfl,rfl⟩:g1=[]/\g2=[]/\g3=[]:=by simpa using e2.symm
   have:=rep F h R v rv [] (by simp) (fun b hb=>⟨hb,rfl⟩) (fun _ _ h=>h) o3
   exact ih (by simpa using this) o4 (off+1) (by simp;omega)
theorem nC (cells:Array Value) (off k:Nat) (l:List Value):((l.zipIdx k).foldl (fun (cs:Array Value) (x:Value×Nat)=>cs.setIfInBounds (off+x.2) x.1) cells).toList=bJ cells.toList (off+k) l:=by
 induction l generalizing cells k with
 | nil=>rfl
 | cons v l ih =>
  simp only [List.zipIdx_cons,List.foldl_cons,bJ]
  rw [ih]
  simp [uw]
end
section
variable {P:Program} {E:Fr} {N fr:Nat} {sl st:Lk} {loc:Nat->Value} {fp:Nat->List Nat} {a:Act} {w:World} {o:Oper}
inductive Ic {α β:Type} (r:α->β->Prop):List α->List β->Prop
 | nil:Ic r [] []
 | cons {a b l m}:r a b->Ic r l m->Ic r (a::l) (b::m)
theorem RefR.cells {v rv} {hp:Hp} (hv:RefR N st loc hp v rv):rv.cells=#[rv]:=by
 cases v<;>simp only [RefR] at hv
 ·obtain ⟨_,_,⟨a,c,rfl,_⟩,_⟩:=hv;rfl
 ·obtain ⟨_,_,⟨g,o,rfl⟩,_⟩:=hv;rfl
 ·obtain ⟨_,_,⟨g,rfl|rfl⟩,_⟩:=hv<;>rfl
theorem JV {t e ty:TypeId} (ht:P.underlying t=some (.slice e)) {v:HV} {rv:Value} (hv:V E N st loc fp w v rv) {L:Lk} (hvc:(ae L fr (.len v)).2.2) :
  ∃r,(Builtin.len_ #[t] ty #[rv]).run P w=.ok r w/\V E N st loc fp w (ae L fr (.len v)).1 r/\(ae L fr (.len v)).2.1=[]:=by
 cases v<;>simp only [ae] at hvc ⊢<;>(first|exact hvc.elim|skip)
 ·obtain rfl:=fV hv
  exact ⟨.int .i64 0,by simp [Builtin.len_,run_underlying ht,goInt,go_sem],.int .nil,trivial⟩
 ·rename_i n cs
  have:∃a c,rv=.slice a n c:=by
   rcases xM hv with ⟨rfl,_,a,c,rfl⟩|⟨_,_,_,_,_,_,rfl,_⟩
   ·exact ⟨_,_,rfl⟩
   ·exact ⟨_,_,rfl⟩
  obtain ⟨a,c,rfl⟩:=this
  exact ⟨.int .i64 n,by simp [Builtin.len_,run_underlying ht,goInt,go_sem],.int .nil,trivial⟩
 ·rename_i id p sz off n
  obtain ⟨_,_,⟨a,c,rfl,_⟩,_⟩:=kS hv
  exact ⟨.int .i64 n,by simp [Builtin.len_,run_underlying ht,goInt,go_sem],.int .nil,trivial⟩
theorem FP {mx:Bool} {ts:Array TypeId} {ty:TypeId} {u v:HV} {ru rv:Value} (hu:V E N st loc fp w u ru) (hv:V E N st loc fp w v rv) {L:Lk} (hvc:(ae L fr (.mm mx u v)).2.2) :
  ∃r,(if mx then Builtin.max_ ts ty #[ru,rv] else Builtin.min_ ts ty #[ru,rv]).run P w=.ok r w/\V E N st loc fp w (ae L fr (.mm mx u v)).1 r/\(ae L fr (.mm mx u v)).2.1=[]:=by
 cases u<;>cases v<;>simp only [ae] at hvc ⊢<;>(first|exact hvc.elim|skip)
 subst hvc
 obtain rfl:=of_int hu
 obtain rfl:=of_int hv
 cases mx
 ·exact ⟨_,by simp [Builtin.min_,Builtin.min2,go_sem],.int .nil,trivial⟩
 ·exact ⟨_,by simp [Builtin.max_,Builtin.max2,go_sem],.int .nil,trivial⟩
theorem Il {f:FuncId} {cap:List Operand} (hr:Rel E N sl st loc fp a w):V E N st loc fp w (.fn f (cap.map fun x=>bT sl (dw x))) (.func (.func f) #[] (cap.map a.eval).toArray):=by
 have:=OW.fn (f:=f) (hr.vals cap) .nil
 simpa using this
theorem NL {F:Nat->Prop} {hp:Hp} {R:HV->Value->Prop} (hR:∀v rv,R v rv->rv.cells=#[rv]) (place:Nat->Option (Nat×Nat)):∀ (ps:List (Nat×Value)) (qs:List (Nat×Nat×HV)) (zs:List HV) (cells:Array Value),
  Ic (fun p q=>place p.1=some (q.1,q.2.1)/\q.2.2≠.dead/\OW F hp R [q.2.2] [p.2] []) ps qs->OW F hp R zs cells.toList []->(lN zs qs).2->∃cells',Instr.fill place cells ps=some cells'/\OW F hp R (lN zs qs).1 cells'.toList []:=by
 intro ps
 induction ps with
 | nil=>intro qs zs cells hf hz _;cases hf;exact ⟨cells,rfl,hz⟩
 | cons p ps ih =>
  intro qs zs cells hf hz hvc
  cases hf with
  | cons h1 h2 =>
   rename_i q qs
   obtain ⟨off,sz,v⟩:=q
   obtain ⟨i,rv⟩:=p
   obtain ⟨e1,e2,e3⟩:=h1
   simp only at e1 e2 e3
   have hc:=e3.cells e2 hR
   obtain ⟨c1,c2,c3,_⟩:=hvc
   have hl:=hc.length
   have hzl:=hz.length
   simp only [oP] at hl hzl
   have hset:=hz.setFrom hc off (by omega)
   have:=ih qs (setFrom zs off (cellsOf v)) (rv.cells.zipIdx.foldl (fun cs x=>cs.setIfInBounds (off+x.2) x.1) cells) h2 (by
    have:=nC cells off 0 rv.cells.toList
    rw [Nat.add_zero] at this
    rw [<- this] at hset
    have e:Array.foldl (fun (cs:Array Value) (x:Value×Nat)=>cs.setIfInBounds (off+x.2) x.1) cells rv.cells.zipIdx=List.foldl (fun (cs:Array Value) (x:Value×Nat)=>cs.setIfInBounds (off+x.2) x.1) cells rv.cells.toList.zipIdx:=by
     rw [<- Array.foldl_toList,Array.toList_zipIdx]
    rw [e];exact hset) c3
   obtain ⟨cells',h3,h4⟩:=this
   refine ⟨cells',?_,h4⟩
   simp only [Instr.fill,e1]
   rw [if_neg (by simp;omega)]
   exact h3
theorem pV {t:HV} (h:0<(aJ t).length):isPt t:=by
 cases t<;>simp [aJ,isPt] at *
theorem Gw {t:HV} {j:Nat} (h:isPt t):ah t [j]=(aJ t).getD j .dead:=by
 cases t<;>first|exact h.elim|simp [ah,aJ]
theorem OW.node {F:Nat->Prop} {h:Hp} {t:HV} {rv:Value} {fs:List Nat} (o:OW F h dA [t] [rv] fs) {g b:Nat} (hb:je rv=some (g,b)) (hk:0<(aJ t).length) :
  ∃cur e fs',h[g]?=some (.cells cur e (0,0))/\fs=g::fs'/\OW F h dA (aJ t) ((cur.toList.drop b).take (aJ t).length) fs':=by
 cases o with
 | osl h1 h2 h3 h4 h5 h6 h7 h8 =>
  cases h8
  simp only [je,bY,kD] at hb
  obtain ⟨rfl,rfl⟩:=hb
  subst h3
  exact ⟨_,_,_,h1,by simp,h7⟩
 | @optr _ cs g1 cur e f1 _ _ _ h1 h7 h8 =>
  cases h8
  simp only [je,bY,kD] at hb
  obtain ⟨rfl,rfl⟩:=hb
  refine ⟨cur,e,f1,h1,by simp,?_⟩
  have:=h7.length
  simp only [aJ,List.drop_zero]
  rw [this,lV];exact h7
 | leaf _ _ _ _ _ _ hr=>exact hr.elim
 | _=>simp [aJ] at hk
theorem OW.flat1 {F:Nat->Prop} {h:Hp} {v:HV} {rv:Value} {fs:List Nat} (o:OW F h dA [v] [rv] fs) (hf:fH v=true):fs=[]:=by
 cases o with
 | leaf _ _ _ _ _ _ h1=>exact h1.elim
 | osl _ _ _ _ _ _ _ _=>simp [fH] at hf
 | osl0=>simp [fH] at hf
 | optr=>simp [fH] at hf
 | agg=>simp [fH] at hf
 | tup=>simp [fH] at hf
 | fn=>simp [fH] at hf
 | dead=>simp [fH] at hf
 | int t=>cases t;rfl
 | bool t=>cases t;rfl
 | str t=>cases t;rfl
 | nils t=>cases t;rfl
 | nilp t=>cases t;rfl
 | nilf t=>cases t;rfl
 | sl0 t=>cases t;rfl
 | sl _ _ _ _ _ t=>cases t;rfl
 | ptr _ _ _ _ t=>cases t;rfl
 | omap=>simp [fH] at hf
 | oitr=>simp [fH] at hf
 | nilm t=>cases t;rfl
 | rmap _ _ _ _ t=>cases t;rfl
theorem OW.flatL {F:Nat->Prop} {h:Hp} {vs:List HV}:∀ {rvs:List Value} {fs:List Nat},OW F h dA vs rvs fs->aZ vs=true->OW F h dA vs rvs []:=by
 induction vs with
 | nil=>intro rvs fs o _;cases rvs with
  | nil=>exact .nil
  | cons=>exact absurd o.length (by simp)
 | cons v vs ih =>
  intro rvs fs o hf
  cases rvs with
  | nil=>exact absurd o.length (by simp)
  | cons rv rvs =>
   obtain ⟨f1,f2,rfl,o1,o2⟩:=o.split1
   simp only [aZ,xX,aG] at hf
   have:=o1.flat1 hf.1
   subst this
   exact o1.cons1 (ih o2 hf.2)
theorem OW.winFlat {F:Nat->Prop} {h:Hp} {cs:List HV} {rvs:List Value} {fs:List Nat} (o:OW F h dA cs rvs fs) (off m:Nat) (hf:aZ (HL.win cs off m)=true):OW F h dA (HL.win cs off m) ((rvs.drop off).take m) []:=by
 have hl:=o.length
 unfold HL.win at *
 split
 ·rename_i hc
  rw [if_pos hc] at hf
  obtain ⟨rfl,rfl⟩:=hc
  rw [hl,List.drop_zero,lV]
  exact o.flatL hf
 ·rename_i hc
  rw [if_neg hc] at hf
  have h1:cs=cs.take off++((cs.drop off).take m++(cs.drop off).drop m):=by rw [yc,yc]
  rw [h1] at o
  obtain ⟨ru,rw',f1,f2,e1,e2,e3,o1,o2⟩:=OW.splitAt o
  obtain ⟨ru2,rw2,f3,f4,e4,e5,e6,o3,o4⟩:=OW.splitAt o2
  have h3:(rvs.drop off).take m=ru2:=by
   subst e1;subst e4
   rw [gB] at e3 e6
   have l2:=o3.length
   have l4:=o4.length
   simp only [gB,lT] at l2 l4 e6
   rcases dL off cs.length with h|h
   ·have e3':ru.length=off:=by omega
    rw [<- e3',List.drop_left]
    rcases dL m (cs.length - off) with h'|h'
    ·have:ru2.length=m:=by omega
     rw [<- this,List.take_left]
    ·have:rw2=[]:=fG (by omega)
     subst this
     simp only [List.append_nil]
     exact mW (by omega)
   ·have:ru2=[]:=fG (by omega)
    have:rw2=[]:=fG (by omega)
    subst_vars
    simp only [List.append_nil]
    rw [Cj (by omega)];simp
  rw [h3];exact o3.flatL hf
theorem OW.look {v:HV} {rv:Value} {f2:List Nat} {F:Nat->Prop} {h:Hp} {id:Nat} {p:List Nat} {off:Nat} (h5:OW F h dA [v] [rv] f2) (hid:id<N) (_hp:p.length<=2) (hR:∀v rv,dA v rv->RefR N st loc h v rv)
  (hq:ah (st id) (p++[off])=v/\bW h (loc id) (p++[off])=some rv):OW F h (RefR N st loc h) [look id p off v] [rv] []:=by
 have triv:fH v=true->OW F h (RefR N st loc h) [v] [rv] []:=fun hf=>by
  have:=h5.flat1 hf
  subst this
  exact h5.mono hR
 obtain ⟨q1,q2⟩:=hq
 have rowR:∀ {sz n cs},v=.osl sz n cs->(p++[off]).length<=2->RefR N st loc h (.ref id (p++[off]) sz 0 n) rv:=by
  intro sz n cs hv hl
  subst hv
  have shape:∃a c,rv=.slice a n c/\n<=c/\(0<n->∃g o,a=some ⟨g,o,none⟩)/\(∀sz' m cs',HV.osl sz n cs=.osl sz' m cs'->sz'=sz/\∃a' cap,rv=.slice a' m cap/\((n=0/\∃a',rv=.slice a' 0 0)\/∃g o c,a'=some ⟨g,o,none⟩/\rv=.slice (some ⟨g,o+0,none⟩) n c/\0+c*sz=cap*sz/\n<=c/\c<=cap)):=by
   cases h5 with
   | leaf _ _ _ _ _ _ h1=>exact h1.elim
   | osl0=>exact ⟨_,0,rfl,aP _,by simp,fun sz' m cs' he=>by simp only [HV.osl.injEq] at he;obtain ⟨rfl,rfl,rfl⟩:=he;exact ⟨rfl,_,_,rfl,.inl ⟨rfl,_,rfl⟩⟩⟩
   | osl _ _ _ _ h6 _ _ _=>exact ⟨_,_,rfl,h6,fun _=>⟨_,_,rfl⟩,fun sz' m cs' he=>by simp only [HV.osl.injEq] at he;obtain ⟨rfl,rfl,rfl⟩:=he;exact ⟨rfl,_,_,rfl,.inr ⟨_,_,_,rfl,rfl,by simp,h6,aP _⟩⟩⟩
  obtain ⟨a,c,s1,s2,s3,s4⟩:=shape
  refine ⟨hid,hl,⟨a,c,s1,s2,s3⟩,by rw [q1];simp,fun sz' m cs' hg=>?_⟩
  rw [q1] at hg
  obtain ⟨t1,a',cap,t2,t3⟩:=s4 sz' m cs' hg
  exact ⟨t1,a',cap,by rw [q2,t2],t3⟩
 have boxR:∀ {cs},v=.optr cs->(p++[off]).length<=2->RefR N st loc h (.pref id (p++[off]) 0) rv:=by
  intro cs hv hl
  subst hv
  cases h5 with
  | leaf _ _ _ _ _ _ h1=>exact h1.elim
  | optr _ _ _=>exact ⟨hid,hl,⟨_,_,rfl⟩,fun _=>⟨_,_,_,q2,rfl,rfl⟩⟩
 cases v<;>simp only [HL.look]<;>(first|exact triv rfl|exact .dead .nil|skip)
 ·match p with
  | []=>exact cZ rfl (rowR rfl (by simp))
  | [i]=>exact cZ rfl (rowR rfl (by simp))
  | _::_::_=>exact .dead .nil
 ·match p with
  | []=>exact cZ rfl (boxR rfl (by simp))
  | [i]=>exact cZ rfl (boxR rfl (by simp))
  | _::_::_=>exact .dead .nil
 ·have mapR:(p++[off]).length<=2->RefR N st loc h (.mref id (p++[off])) rv:=fun hl=>by
   cases h5 with
   | leaf _ _ _ _ _ _ h1=>exact h1.elim
   | omap _ _ _ _=>exact ⟨hid,hl,⟨_,.inl rfl⟩,by rw [q1];simp,fun _=>q2⟩
  match p with
  | []=>exact cZ rfl (mapR (by simp))
  | [i]=>exact cZ rfl (mapR (by simp))
  | _::_::_=>exact .dead .nil
theorem GX {t:TypeId} {d:TypeDesc} {i:TypeInfo} (hd:P.underlying t=some d) (hi:P.info? t=some i) (hr:Rel E N sl st loc fp a w) {v:HV} {rv:Value} (hv:V E N st loc fp w v rv) (hvc:(ae st fr (.load (gU d) i.size v)).2.2) :
  ∃r,(Instr.loadAt t rv).run P w=.ok r w/\V E N st loc fp w (ae st fr (.load (gU d) i.size v)).1 r/\(ae st fr (.load (gU d) i.size v)).2.1=[]:=by
 have rowD:d.isRow=gU d:=by cases d<;>rfl
 cases v<;>simp only [ae] at hvc ⊢<;>(first|exact hvc.elim|skip)
 ·rename_i cs off
  obtain ⟨g,b,cur,e,fz,rfl,h1,h2,h3⟩:=DU hv
  have cell:∀j rv,((cur.toList.drop b).take cs.length)[j]?=some rv->w.cell? ⟨g,b+j,none⟩=some rv:=by
   intro j rv hj
   rw [oO] at hj
   split at hj
   ·rw [jf];simp only [cellAt,h2];simpa using hj
   ·cases hj
  cases hA:gU d
  ·simp only [hA,Bool.false_eq_true,if_false] at hvc ⊢
   obtain ⟨r,h4,h5⟩:=h3.get off hvc
   refine ⟨r,?_,h5.mono fun _ _ h=>h.elim,trivial⟩
   have:=cell _ _ h4
   simp [Instr.loadAt,Instr.sureAddr,loadVar,mD hd,hA,run_load,this,go_sem]
  ·simp only [hA,if_true] at hvc ⊢
   have hw:=h3.win off i.size
   refine ⟨_,run_loadAt_mid w g (b+off) t ((((cur.toList.drop b).take cs.length).drop off).take i.size) d ?_ hd (rowD.trans hA) ?_,.agg (hw.mono fun _ _ h=>h.elim) .nil,trivial⟩
   ·intro j v hj
    rw [uw]
    apply cell
    rw [oO] at hj
    split at hj
    ·simpa using hj
    ·cases hj
   ·have:=hw.length
    have h4:=h3.length
    simp only [hi,iq,bY,gB,lT] at h4 ⊢
    omega
 ·rename_i id p off
  obtain ⟨hid,hp,_,hn⟩:=nU hv
  have hk:off<(aJ (ah (st id) p)).length:=by
   cases hA:gU d<;>simp only [hA,if_true,Bool.false_eq_true,if_false] at hvc<;>omega
  have hpt:isPt (ah (st id) p):=pV (by omega)
  have hnode:isNode (ah (st id) p):=hpt.node
  obtain ⟨rv',f1,f',f2,e1,e2,e3,_,_,_⟩:=(hr.tree id (bV hnode)).focus hp hnode
  obtain ⟨rvn,g,o,b1,b2,rfl⟩:=hn hpt
  rw [e1] at b1
  cases b1
  obtain ⟨cur,e,fs',c2,c3,c4⟩:=e3.node b2 (by omega)
  have cell:∀j rv,((cur.toList.drop o).take (aJ (ah (st id) p)).length)[j]?=some rv->w.cell? ⟨g,o+j,none⟩=some rv:=by
   intro j rv hj
   rw [oO] at hj
   split at hj
   ·rw [jf];simp only [cellAt,c2];simpa using hj
   ·cases hj
  cases hA:gU d
  ·simp only [hA,Bool.false_eq_true,if_false] at hvc ⊢
   obtain ⟨r,g1,g2,g3,h4,h6,h5,_⟩:=c4.at off hvc
   have h7:=cell _ _ h4
   refine ⟨r,by simp [Instr.loadAt,Instr.sureAddr,loadVar,mD hd,hA,run_load,h7,go_sem],?_,trivial⟩
   generalize hv':(aJ (ah (st id) p)).getD off .dead=v' at *
   have hkid:ah (ah (st id) p) [off]=v':=by
    rw [<- hv']
    exact Gw hpt
   refine h5.look hid hp ?_ ⟨by rw [nK];exact hkid,?_⟩
   ·exact fun _ _ h=>h.elim
   ·rw [vH e1]
    simp only [bW,b2]
    rw [kC c2]
    rw [jf] at h7
    simpa only [cellAt,c2] using h7
  ·simp only [hA,if_true] at hvc ⊢
   have hfl:=c4.winFlat off i.size hvc.2.2
   refine ⟨_,run_loadAt_mid w g (o+off) t ((((cur.toList.drop o).take (aJ (ah (st id) p)).length).drop off).take i.size) d ?_ hd (rowD.trans hA) ?_,.agg (hfl.mono fun _ _ h=>h.elim) .nil,trivial⟩
   ·intro j v hj
    rw [uw]
    apply cell
    rw [oO] at hj
    split at hj
    ·simpa using hj
    ·cases hj
   ·have h4:=c4.length
    simp only [hi,iq,bY,gB,lT] at h4 ⊢
    omega
end
section
variable {P:Program} {E:Fr} {N fr:Nat} {sl st:Lk} {loc:Nat->Value} {fp:Nat->List Nat} {a:Act} {w:World} {o:Oper}
theorem dG (us vs:List dJ):qF sl (us++vs)=qF (qF sl us) vs:=by
 induction us generalizing sl with
 | nil=>rfl
 | cons u us ih=>cases u<;>simp only [List.cons_append,qF]<;>exact ih
theorem bQ (L:Lk) (us vs:List dJ):Lk.upd L (us++vs)=Lk.upd (Lk.upd L us) vs:=by
 induction us generalizing L with
 | nil=>rfl
 | cons u us ih=>cases u<;>simp only [List.cons_append,Lk.upd]<;>exact ih _
structure Taken (E:Fr) (fp:Nat->List Nat) (w:World) (st:Lk) (L:Lk) (ts:List HV) (rvs:List Value) (us:List dJ) (ff ids:List Nat):Prop where
 own:OW (dX E fp w) w.heap dA ts rvs ff
 nodup:ff.Nodup
 alive:∀id∈ids,L id=st id/\st id≠.dead
 from_:∀b∈ff,∃id∈ids,b∈fp id
 upd:∀id,Lk.upd L us id=if id∈ids then .dead else L id
 sl:∀sl,qF sl us=sl
 one:∀rv∈rvs,rv.oneCell'=true
theorem LW {F:Nat->Prop} {h:Hp} {R:HV->Value->Prop} {v:HV} {rv:Value} (hf:fH v=true) (hv:OW F h R [v] [rv] []):OW F h dA [v] [rv] []/\rv.oneCell'=true:=by
 cases v<;>simp only [fH,Bool.false_eq_true] at hf
 ·obtain rfl:=of_int hv;exact ⟨.int .nil,rfl⟩
 ·obtain rfl:=of_bool hv;exact ⟨.bool .nil,rfl⟩
 ·cases hv with
  | leaf h1=>cases h1
  | str=>exact ⟨.str .nil,rfl⟩
 ·obtain rfl:=fV hv;exact ⟨.nils .nil,rfl⟩
 ·cases hv with
  | leaf h1=>cases h1
  | nilp=>exact ⟨.nilp .nil,rfl⟩
 ·cases hv with
  | leaf h1=>cases h1
  | nilf=>exact ⟨.nilf .nil,rfl⟩
 ·cases hv with
  | leaf h1=>cases h1
  | sl0=>exact ⟨.sl0 .nil,rfl⟩
  | sl a b c d e _=>exact ⟨.sl a b c d e .nil,rfl⟩
 ·cases hv with
  | leaf h1=>cases h1
  | ptr a b c d _=>exact ⟨.ptr a b c d .nil,rfl⟩
 ·cases hv with
  | leaf h1=>cases h1
  | nilm=>exact ⟨.nilm .nil,rfl⟩
 ·cases hv with
  | leaf h1=>cases h1
  | rmap a b c d _=>exact ⟨.rmap a b c d .nil,rfl⟩
theorem NM {F:Nat->Prop} {h:Hp} {R:HV->Value->Prop}:∀ {cap:List HV} {rvs:List Value} {fs:List Nat},ptrs cap=true->OW F h R cap rvs fs->OW F h dA cap rvs []:=by
 intro cap
 induction cap with
 | nil=>intro rvs fs _ o;cases o;exact .nil
 | cons v r ih =>
  intro rvs fs hp o
  cases v<;>simp only [ptrs] at hp<;>(try (cases hp;done))
  cases o with
  | leaf h1=>cases h1
  | ptr a b c d t=>exact .ptr a b c d (ih hp t)
theorem uH (hr:Rel E N sl st loc fp a w) {L:Lk} (hL:∀id,L id=st id\/L id=.dead) {v:HV} {rv:Value} (hv:V E N st loc fp w v rv) (hvc:(takeC L v).2.2) :
  ∃ff ids,Taken E fp w st L [(takeC L v).1] [rv] (takeC L v).2.1 ff ids:=by
 have flat:fH v=true->Taken E fp w st L [v] [rv] [] [] []:=fun hf=>by
  obtain ⟨h1,h2⟩:=LW hf hv
  exact ⟨h1,by simp,by simp,by simp,by simp [Lk.upd],fun _=>rfl,by simpa using h2⟩
 cases v<;>simp only [takeC] at hvc ⊢<;>(first|exact hvc.elim|exact ⟨_,_,flat rfl⟩|skip)
 case fn f cap =>
  obtain ⟨rvs,rfl,ho⟩:=Ae hv
  exact ⟨[],[],.fn (NM hvc ho) .nil,by simp,by simp,by simp,by simp [Lk.upd],fun _=>rfl,by simp [Value.oneCell']⟩
 ·rename_i id p sz off n
  cases p with
  | cons=>simp only at hvc
  | nil =>
   simp only at hvc ⊢
   generalize hLid:L id=t at *
   cases t<;>simp only at hvc ⊢<;>(first|exact hvc.elim|skip)
   rename_i sz' m cs
   obtain ⟨rfl,rfl⟩:=hvc
   have hst:st id=.osl sz' n cs:=by rcases hL id with h|h<;>rw [hLid] at h;exact h.symm;cases h
   obtain ⟨h1,h2,⟨a',c,rfl,hc,h0⟩,h5,h4⟩:=kS hv
   obtain ⟨rfl,a2,cap,b1,b2⟩:=h4 sz' n cs (by simpa [ah] using hst)
   simp only [bW,bY] at b1
   have hT:=hr.tree id (by rw [hst];simp)
   rw [hst,b1] at hT
   have upd:∀i,Lk.upd L [.put id .dead] i=if i∈[id] then .dead else L i:=fun i=>by simp [Lk.upd]
   rcases b2 with ⟨rfl,a3,b3⟩|⟨g,o,c',rfl,b3,b4,b5,b6⟩
   ·have hcs:cs=[]:=by
     generalize hfs:fp id=fs at hT
     cases hT with
     | leaf _ h2=>exact absurd rfl (h2 _ _ _)
     | osl0=>rfl
     | osl _ h2=>exact fG (by simpa using h2)
    subst hcs
    cases b3
    exact ⟨[],[id],.osl0 .nil,by simp,by simp [hLid,hst],by simp,upd,fun _=>rfl,by simp [Value.oneCell']⟩
   ·cases b3
    refine ⟨fp id,[id],?_,hr.nodup id,by simp [hLid,hst],fun b hb=>⟨id,by simp,hb⟩,upd,fun _=>rfl,by simp [Value.oneCell']⟩
    generalize hfs:fp id=fs at hT ⊢
    cases hT with
    | leaf _ h2=>exact absurd rfl (h2 _ _ _)
    | osl0 t => obtain rfl : c = 0 := by omega
                exact .osl0 t
    | osl g1 g2 g3 g4 g5 g6 g7 g8=>exact .osl g1 g2 g3 (by omega) b5 (by omega) g7 g8
 ·rename_i id p off
  cases p with
  | cons=>simp only at hvc
  | nil =>
   simp only at hvc ⊢
   generalize hLid:L id=t at *
   cases t<;>simp only at hvc ⊢<;>(first|exact hvc.elim|skip)
   rename_i cs
   subst hvc
   have hst:st id=.optr cs:=by rcases hL id with h|h<;>rw [hLid] at h;exact h.symm;cases h
   obtain ⟨h1,h2,⟨g,o,rfl⟩,h4⟩:=nU hv
   obtain ⟨rvn,g',o',b1,b2,b3⟩:=h4 (by simp [ah,hst,isPt])
   simp only [bW,bY] at b1
   have hT:=hr.tree id (by rw [hst];simp)
   rw [hst,b1] at hT
   refine ⟨fp id,[id],?_,hr.nodup id,by simp [hLid,hst],fun b hb=>⟨id,by simp,hb⟩,fun i=>by simp [Lk.upd],fun _=>rfl,by simp [Value.oneCell']⟩
   generalize hfs:fp id=fs at hT ⊢
   cases hT with
   | leaf _ _ h2=>exact absurd rfl (h2.1 _)
   | optr g1 g2 g3 =>
    simp only [je,bY,kD] at b2
    obtain ⟨rfl,rfl⟩:=b2
    rw [b3]
    exact .optr g1 g2 g3
 ·rename_i id p
  cases p with
  | cons=>simp only at hvc
  | nil =>
   simp only at hvc ⊢
   generalize hLid:L id=t at *
   cases t<;>simp only at hvc ⊢<;>(first|exact hvc.elim|skip)
   rename_i m ks cs
   have hst:st id=.omap m ks cs:=by rcases hL id with h|h<;>rw [hLid] at h;exact h.symm;cases h
   obtain ⟨h1,h2,h3,_,h4⟩:=yN hv
   have b1:=h4 (by simp [ah,hst,isMp])
   simp only [bW,bY] at b1
   have hT:=hr.tree id (by rw [hst];simp)
   rw [hst,b1] at hT
   refine ⟨fp id,[id],hT,hr.nodup id,by simp [hLid,hst],fun b hb=>⟨id,by simp,hb⟩,fun i=>by simp [Lk.upd],fun _=>rfl,?_⟩
   obtain ⟨g,rfl|rfl⟩:=h3<;>simp [Value.oneCell']
theorem uI (hr:Rel E N sl st loc fp a w):∀ {vs:List HV} {L:Lk} {rvs:List Value},(∀id,L id=st id\/L id=.dead)->OW (dX E fp w) w.heap (RefR N st loc w.heap) vs rvs []->(dO L vs).2.2 ->
  ∃ff ids,Taken E fp w st L (dO L vs).1 rvs (dO L vs).2.1 ff ids:=by
 intro vs
 induction vs with
 | nil =>
  intro L rvs hL hv _
  cases rvs with
  | nil=>exact ⟨[],[],.nil,by simp,by simp,by simp,by simp [dO,Lk.upd],fun _=>rfl,by simp⟩
  | cons=>exact absurd hv.length (by simp)
 | cons v vs ih =>
  intro L rvs hL hv hvc
  cases rvs with
  | nil=>exact absurd hv.length (by simp)
  | cons rv rvs =>
   obtain ⟨f1,f2,e1,o1,o2⟩:=hv.split1
   obtain ⟨rfl,rfl⟩:f1=[]/\f2=[]:=by simpa using e1.symm
   simp only [dO] at hvc ⊢
   obtain ⟨ff,ids,T⟩:=uH hr hL o1 hvc.1
   have hL':∀id,Lk.upd L (takeC L v).2.1 id=st id\/Lk.upd L (takeC L v).2.1 id=.dead:=fun id=>by
    rw [T.upd];split
    ·exact .inr rfl
    ·exact hL id
   obtain ⟨ff2,ids2,T2⟩:=ih hL' o2 hvc.2
   have dis:∀id∈ids,id ∉ ids2:=fun id h1 h2=>by
    have h3:=T2.alive id h2
    rw [T.upd,if_pos h1] at h3
    exact h3.2 h3.1.symm
   refine ⟨ff++ff2,ids++ids2,T.own.cons1 T2.own,?_,?_,?_,?_,?_,?_⟩
   ·rw [zl007]
    refine ⟨T.nodup,T2.nodup,fun b h1 c h2 hbc=>?_⟩
    subst hbc
    obtain ⟨i,hi,hb1⟩:=T.from_ b h1
    obtain ⟨j,hj,hb2⟩:=T2.from_ b h2
    exact hr.apart i j (fun e=>dis i hi (e▸hj)) b hb1 hb2
   ·intro id hid
    rcases zl001.1 hid with h|h
    ·exact T.alive id h
    ·have:=T2.alive id h
     rw [T.upd,if_neg (fun h'=>dis id h' h)] at this
     exact this
   ·intro b hb
    rcases zl001.1 hb with h|h
    ·obtain ⟨i,hi,h'⟩:=T.from_ b h;exact ⟨i,by simp [hi],h'⟩
    ·obtain ⟨i,hi,h'⟩:=T2.from_ b h;exact ⟨i,by simp [hi],h'⟩
   ·intro id
    rw [bQ,T2.upd,T.upd]
    by_cases h1:id∈ids<;>by_cases h2:id∈ids2<;>simp [h1,h2]
   ·intro sl;rw [dG,T.sl,T2.sl]
   ·intro r hr'
    rcases zl008.1 hr' with rfl|h
    ·exact T.one _ (by simp)
    ·exact T2.one r h
end
section
variable {P:Program} {E:Fr} {N fr:Nat} {sl st:Lk} {loc:Nat->Value} {fp:Nat->List Nat} {a:Act} {w:World} {o:Oper}
theorem Rel.build (hr:Rel E N sl st loc fp a w) (hfr:N<=fr) {ids:List Nat} {us:List dJ} (hal:∀id∈ids,st id≠.dead) (hupd:∀id,Lk.upd st us id=if id∈ids then .dead else st id) (hslu:∀sl,qF sl us=sl)
  {T:HV} {rT:Value} {fT:List Nat} {w':World} (hsz:w.heap.size<=w'.heap.size) (hos:w'.os=w.os) (htape:w'.tape=w.tape) (hout:w'.output=w.output)
  (hheap:∀b,b<w.heap.size->(∀id∈ids,b ∉ fp id)->w'.heap[b]?=w.heap[b]?) (hT:OW (dX E fp w) w'.heap dA [T] [rT] fT)
  (hf:∀b∈fT,(w.heap.size<=b/\b<w'.heap.size)\/∃id∈ids,b∈fp id) (hnd:fT.Nodup) (hTd:T≠.dead) :
  ∃loc' fp',Rel E (fr+1) (qF sl (us++[.put fr T])) (Lk.upd st (us++[.put fr T])) loc' fp' a w'/\loc' fr=rT/\Lk.upd st (us++[.put fr T]) fr=T/\(∀b,dX E fp w b->dX E fp' w' b):=by
 have hnf:fr ∉ ids:=fun h=>hal fr h (hr.new fr hfr)
 have hst':∀id,Lk.upd st (us++[.put fr T]) id=if id=fr then T else if id∈ids then .dead else st id:=fun id=>by
  rw [bQ]
  show (if id=fr then T else Lk.upd st us id)=_
  rw [hupd]
 have hsl':qF sl (us++[.put fr T])=sl:=by rw [dG,hslu];rfl
 have:=hr.step (fun _=>True) hr.all (fun i=>i=fr\/i∈ids) (N':=fr+1) (st':=Lk.upd st (us++[.put fr T])) (loc':=fun i=>if i=fr then rT else loc i) (fp':=fun i=>if i=fr then fT else if i∈ids then [] else fp i) (w':=w') (by omega) hsz hos htape hout
  (fun b hb h=>hheap b hb fun id hid=>h id (.inr hid)) ?_ ?_ ?_ ?_ ?_ ?_ ?_ ?_
 ·refine ⟨fun i=>if i=fr then rT else loc i,fun i=>if i=fr then fT else if i∈ids then [] else fp i,?_,?_,?_,fun b hb=>(this.2.1 b hb).1⟩
  ·rw [hsl'];exact this.1
  ·simp
  ·rw [hst'];simp
 ·intro id hid
  simp only [not_or] at hid
  rw [hst']
  simp [hid.1,hid.2]
 ·intro hfz id hid hd
  rw [hst'] at hd ⊢
  by_cases h:id=fr
  ·simp only [h,if_true]
   exact hT.stable (fun _ _=>rfl) (fun b hb=>⟨(hfz b hb).1,rfl⟩) (fun _ _ h=>h)
  ·rcases hid with h'|h'
   ·exact absurd h' h
   ·simp [h,h'] at hd
 ·intro id hid hd
  rw [hst'] at hd
  by_cases h:id=fr
  ·simp [h] at hd;exact absurd hd hTd
  ·rcases hid with h'|h'
   ·exact absurd h' h
   ·simp [h,h']
 ·intro id hid hge
  rcases hid with h|h
  ·omega
  ·rw [hst',if_neg (by omega),if_pos h]
 ·intro id hid b hb
  by_cases h:id=fr
  ·simp only [h,if_true] at hb
   rcases hf b hb with h1|⟨j,hj,h1⟩
   ·exact .inl h1
   ·exact .inr ⟨j,.inr hj,h1⟩
  ·rcases hid with h'|h'
   ·exact absurd h' h
   ·simp [h,h'] at hb
 ·intro id hid
  by_cases h:id=fr
  ·simpa [h] using hnd
  ·rcases hid with h'|h'
   ·exact absurd h' h
   ·simp [h,h']
 ·intro i j hi hj hij b hb hb'
  by_cases h:i=fr
  ·have h2:j≠fr:=fun e=>hij (h.trans e.symm)
   rcases hj with h'|h'
   ·exact absurd h' h2
   ·simp [h2,h'] at hb'
  ·rcases hi with h'|h'
   ·exact absurd h' h
   ·simp [h,h'] at hb
 ·intro v rv id hv _ hid hx
  have hlt:=hv.isRef
  obtain ⟨id',h1,h2⟩:=hlt
  rw [hid] at h1;cases h1
  have h3:id∈ids:=by rcases hx with h|h;omega;exact h
  have hd:Lk.upd st (us++[.put fr T]) id=.dead:=by rw [hst',if_neg (by omega),if_pos h3]
  cases v<;>simp only [dH,bY,reduceCtorEq] at hid
  ·subst hid
   obtain ⟨a1,a2,a0,a4,a3⟩:=hv
   refine ⟨by omega,a2,a0,?_,?_⟩
   ·intro cs;rw [hd];rename_i p _ _ _;cases p<;>simp [ah]
   ·intro sz' m cs hg;rw [hd] at hg;rename_i p _ _ _;cases p<;>simp [ah] at hg
  ·subst hid
   obtain ⟨a1,a2,a0,a3⟩:=hv
   refine ⟨by omega,a2,a0,?_⟩
   intro hg;rw [hd] at hg;rename_i p _;cases p<;>simp [ah,isPt] at hg
  ·subst hid
   obtain ⟨a1,a2,a0,a4,a3⟩:=hv
   refine ⟨by omega,a2,a0,by intro cs;rw [hd];rename_i p;cases p<;>simp [ah],?_⟩
   intro hg;rw [hd] at hg;rename_i p;cases p<;>simp [ah,isMp] at hg
theorem Rel.build_sl (hr:Rel E N sl st loc fp a w) (hfr:N<=fr) {ids:List Nat} {us:List dJ} (hal:∀id∈ids,st id≠.dead) (hupd:∀id,Lk.upd st us id=if id∈ids then .dead else st id) (hslu:∀sl,qF sl us=sl)
  {sz n:Nat} {cs:List HV} {rT:Value} {fT:List Nat} {w':World} (hsz:w.heap.size<=w'.heap.size) (hos:w'.os=w.os) (htape:w'.tape=w.tape) (hout:w'.output=w.output)
  (hheap:∀b,b<w.heap.size->(∀id∈ids,b ∉ fp id)->w'.heap[b]?=w.heap[b]?) (hT:OW (dX E fp w) w'.heap dA [.osl sz n cs] [rT] fT)
  (hf:∀b∈fT,(w.heap.size<=b/\b<w'.heap.size)\/∃id∈ids,b∈fp id) (hnd:fT.Nodup) :
  After E (fr+1) sl st (us++[.put fr (.osl sz n cs)]) (.ref fr [] sz 0 n) rT a w':=by
 obtain ⟨loc',fp',h1,h2,h3,h4⟩:=hr.build hfr hal hupd hslu hsz hos htape hout hheap hT hf hnd (by simp)
 refine ⟨loc',fp',h1,cZ rfl ?_⟩
 have shape:∃a c,rT=.slice a n c/\n<=c/\(0<n->∃g o,a=some ⟨g,o,none⟩)/\((n=0/\∃a',rT=.slice a' 0 0)\/∃g o,a=some ⟨g,o,none⟩):=by
  cases hT with
  | leaf _ _ _ _ _ _ h1=>exact h1.elim
  | osl0=>exact ⟨_,0,rfl,aP _,by simp,.inl ⟨rfl,_,rfl⟩⟩
  | osl _ _ _ _ h6 _ _ _=>exact ⟨_,_,rfl,h6,fun _=>⟨_,_,rfl⟩,.inr ⟨_,_,rfl⟩⟩
 obtain ⟨a',c,rfl,s2,s3,s4⟩:=shape
 refine ⟨by omega,by simp,⟨a',c,rfl,s2,s3⟩,by rw [h3];simp [ah],fun sz' m cs' hg=>?_⟩
 rw [h3] at hg
 simp only [ah,HV.osl.injEq] at hg
 obtain ⟨rfl,rfl,rfl⟩:=hg
 refine ⟨rfl,a',c,by simp [bW,h2],?_⟩
 rcases s4 with ⟨rfl,a'',h5⟩|⟨g,o,rfl⟩
 ·exact .inl ⟨rfl,a'',h5⟩
 ·exact .inr ⟨g,o,c,rfl,by simp,by simp,s2,aP _⟩
theorem Rel.build_ptr (hr:Rel E N sl st loc fp a w) (hfr:N<=fr) {ids:List Nat} {us:List dJ} (hal:∀id∈ids,st id≠.dead) (hupd:∀id,Lk.upd st us id=if id∈ids then .dead else st id) (hslu:∀sl,qF sl us=sl)
  {cs:List HV} {g:Nat} {fT:List Nat} {w':World} (hsz:w.heap.size<=w'.heap.size) (hos:w'.os=w.os) (htape:w'.tape=w.tape) (hout:w'.output=w.output)
  (hheap:∀b,b<w.heap.size->(∀id∈ids,b ∉ fp id)->w'.heap[b]?=w.heap[b]?) (hT:OW (dX E fp w) w'.heap dA [.optr cs] [.pointer (some ⟨g,0,none⟩)] fT)
  (hf:∀b∈fT,(w.heap.size<=b/\b<w'.heap.size)\/∃id∈ids,b∈fp id) (hnd:fT.Nodup) :
  After E (fr+1) sl st (us++[.put fr (.optr cs)]) (.pref fr [] 0) (.pointer (some ⟨g,0,none⟩)) a w':=by
 obtain ⟨loc',fp',h1,h2,h3,h4⟩:=hr.build hfr hal hupd hslu hsz hos htape hout hheap hT hf hnd (by simp)
 exact ⟨loc',fp',h1,cZ rfl ⟨by omega,by simp,⟨_,_,rfl⟩,fun _=>⟨.pointer (some ⟨g,0,none⟩),g,0,by simp [bW,h2],rfl,rfl⟩⟩⟩
theorem Taken.cellsNew {L:Lk} {ts:List HV} {rvs:List Value} {us:List dJ} {ff ids:List Nat} (T:Taken E fp w st L ts rvs us ff ids) (ob:Obj):OW (dX E fp w) (w.alloc ob).heap dA ts rvs ff/\(w.heap.size::ff).Nodup/\(∀b∈w.heap.size::ff,(w.heap.size<=b/\b<(w.alloc ob).heap.size)\/∃id∈ids,b∈fp id):=by
 have hlt:∀b∈ff,b<w.heap.size:=T.own.lt
 refine ⟨T.own.stable (fun b hb=>fB _ _ (hlt b hb)) (fun b hb=>⟨hb,fB _ _ hb.1⟩) (fun _ _ h=>h),?_,?_⟩
 ·rw [zl027]
  exact ⟨fun h=>by have:=hlt _ h;omega,T.nodup⟩
 ·intro b hb
  rcases zl008.1 hb with rfl|h
  ·exact .inl ⟨aP _,by rw [dM];omega⟩
  ·exact .inr (T.from_ b h)
theorem GY (hr:Rel E N sl st loc fp a w) (hfr:N<=fr) {e:TypeId} {i:TypeInfo} (_hi:P.info? e=some i) {v:HV} {rv:Value} (hv:V E N st loc fp w v rv) (hvc:(ae st fr (.newv i.size v)).2.2) :
  ∃r w',(Instr.box e rv).run P w=.ok r w'/\After E (fr+1) sl st (ae st fr (.newv i.size v)).2.1 (ae st fr (.newv i.size v)).1 r a w':=by
 simp only [ae] at hvc ⊢
 have hd:v≠.dead:=by rintro rfl;simp [cellsOf,dO,takeC] at hvc
 have hc:=hv.cells hd (fun _ _ h=>h.cells)
 obtain ⟨ff,ids,T⟩:=uI hr (fun id=>.inl rfl) hc hvc.1
 obtain ⟨h1,h2,h3⟩:=T.cellsNew (.cells rv.cells e)
 refine ⟨.pointer (some ⟨w.heap.size,0,none⟩),w.alloc (.cells rv.cells e),by simp [Instr.box,newVar,newRow,go_sem],?_⟩
 have:=OW.optr (F:=dX E fp w) (h:=(w.alloc (.cells rv.cells e)).heap) (R:=dA) (e:=e) (iH _ _ rfl) h1 .nil
 exact hr.build_ptr hfr (fun id h=>(T.alive id h).2) T.upd T.sl (by rw [dM];omega) rfl rfl rfl (fun b hb _=>fB _ _ hb) (by simpa using this) (by simpa using h3) (by simpa using h2)
theorem Io (hr:Rel E N sl st loc fp a w) (hfr:N<=fr) {e:TypeId} {i:TypeInfo} (hi:P.info? e=some i) {z:Value} (hz:i.zero=some z) :
  ∃r w',(Instr.alloc e true (.tuple #[])).run P w=.ok r w'/\After E (fr+1) sl st (ae st fr (.newz (z.cells.toList.map ofVal1))).2.1 (ae st fr (.newz (z.cells.toList.map ofVal1))).1 r a w':=by
 simp only [ae]
 refine ⟨.pointer (some ⟨w.heap.size,0,none⟩),w.alloc (.cells z.cells e),by simp [Instr.alloc,zeroValue,typeInfo,hi,hz,newVar,newRow,go_sem],?_⟩
 have h1:OW (dX E fp w) (w.alloc (.cells z.cells e)).heap dA (z.cells.toList.map ofVal1) z.cells.toList []:=OW.ofVals _
 have:=OW.optr (F:=dX E fp w) (h:=(w.alloc (.cells z.cells e)).heap) (R:=dA) (e:=e) (iH _ _ rfl) h1 .nil
 exact hr.build_ptr (ids:=[]) (us:=[]) hfr (by simp) (by simp [Lk.upd]) (fun _=>rfl) (by rw [dM];omega) rfl rfl rfl (fun b hb _=>fB _ _ hb) (by simpa using this) (by simp [dM]) (by simp)
theorem H5 (hr:Rel E N sl st loc fp a w) (hfr:N<=fr) {t e:TypeId} {i:TypeInfo} (ht:P.underlying t=some (.slice e)) (hi:P.info? e=some i) {z:Value} (hz:i.zero=some z) (hzs:z.cells.size=i.size) (hpos:0<i.size) {v:HV} {rv:Value} (hv:V E N st loc fp w v rv) {zs:List HV} (hzo:∀ (F:Nat->Prop) (h:Hp),OW F h dA zs z.cells.toList [])
  (hvc:(ae st fr (.mksl i.size i.bytes zs v)).2.2) :
  ∃r w',(Instr.makeSlice t rv rv).run P w=.ok r w'/\After E (fr+1) sl st (ae st fr (.mksl i.size i.bytes zs v)).2.1 (ae st fr (.mksl i.size i.bytes zs v)).1 r a w':=by
 cases v<;>simp only [ae] at hvc<;>(first|exact hvc.elim|skip)
 rename_i k n
 cases k<;>simp only at hvc<;>(first|exact hvc.elim|skip)
 obtain rfl:=of_int hv
 obtain ⟨h1,h2,h3⟩:=hvc
 refine ⟨_,_,run_make (P:=P) w t e i z ht hi hz .i64 .i64 n n h1 (Int.le_refl _) h2 h3,?_⟩
 simp only [ae]
 refine hr.newSl hfr (cells:=madeCells z.cells (n.toNat*i.size)) ?_ (by have hzl:=(hzo (fun _=>True) #[]).length;simp only [List.length_flatten,List.map_replicate,List.sum_replicate_nat];rw [hzl];simp [hzs]) (by unfold maxLen;omega) w rfl rfl rfl rfl
 have e1:(madeCells z.cells (n.toNat*i.size)).toList=(List.replicate n.toNat z.cells.toList).flatten:=by
  generalize n.toNat=m
  rw [<- hzs] at hpos ⊢
  induction m with
  | zero=>simp [madeCells]
  | succ n ih =>
   rw [List.replicate_succ',List.flatten_append,<- ih]
   apply o7
   intro j
   by_cases h1:j<n*z.cells.size
   ·rw [FU (by simp [madeCells];exact h1)]
    have h2:j<(n+1)*z.cells.size:=by rw [Nat.succ_mul];omega
    simp [madeCells,h1,h2]
   ·rw [List.getElem?_append_right (by simp [madeCells];omega)]
    by_cases h2:j<(n+1)*z.cells.size
    ·have e:j % z.cells.size=j - n*z.cells.size:=by
      rw [Nat.succ_mul] at h2
      have:j=(j - n*z.cells.size)+n*z.cells.size:=by omega
      rw [this,Nat.add_mul_mod_self_right,Q3 (by omega)]
      omega
     have h3:j - n*z.cells.size<z.cells.size:=by rw [Nat.succ_mul] at h2;omega
     simp [madeCells,h2,e,h3]
    ·have h3:¬ j - n*z.cells.size<z.cells.size:=by rw [Nat.succ_mul] at h2;omega
     simp [madeCells,h2]
     omega
 rw [e1]
 generalize n.toNat=m
 induction m with
 | zero=>exact .nil
 | succ m ih =>
  simp only [Cf,List.flatten_cons]
  exact (hzo _ _).append ih
end
def kind:HV->Option (Option (Nat×Nat)×Nat)
 | .osl sz n _=>some (some (sz,n),0)
 | .optr _=>some (none,0)
 | .omap ..=>some (none,1)
 | .oitr ..=>some (none,2)
 | _=>none
theorem OE {t t':HV} (h:kind t'=kind t) (hp:isPt t'):isPt t:=by
 cases t'<;>first|exact hp.elim|(cases t<;>simp [kind] at h<;>trivial)
theorem Og {t t':HV} (h:kind t'=kind t) (hp:isMp t'):isMp t:=by
 cases t'<;>first|exact hp.elim|(cases t<;>simp [kind] at h<;>trivial)
theorem kind_node {t:HV}:isNode t <-> kind t≠none:=by cases t<;>simp [isNode,kind]
section
variable {P:Program} {E:Fr} {N fr:Nat} {sl st:Lk} {loc:Nat->Value} {fp:Nat->List Nat} {a:Act} {w:World} {o:Oper}
theorem RefR.kind {N':Nat} {st':Lk} {loc':Nat->Value} {h h':Hp} {v:HV} {rv:Value} {id:Nat} (hv:RefR N st loc h v rv) (hid:dH v=some id) (hN:N<=N')
  (hk:∀p,p.length<=2->((∃i sz o n,v=.ref i p sz o n)\/(∃i o,v=.pref i p o)\/∃i,v=.mref i p)->kind (ah (st' id) p)=none\/(kind (ah (st' id) p)=kind (ah (st id) p)/\bW h' (loc' id) p=bW h (loc id) p)):RefR N' st' loc' h' v rv:=by
 cases v<;>simp only [dH,bY,reduceCtorEq] at hid
 ·rename_i i p sz off n
  subst hid
  obtain ⟨a1,a2,a0,a4,a3⟩:=hv
  refine ⟨kM a1 hN,a2,a0,fun cs hg=>?_,fun sz' m cs hg=>?_⟩
  ·rcases hk p a2 (.inl ⟨_,_,_,_,rfl⟩) with h1|⟨h1,_⟩
   ·rw [hg] at h1;cases h1
   ·rw [hg] at h1
    cases h2:ah (st i) p<;>rw [h2] at h1<;>simp [HL.kind] at h1
    exact a4 _ h2
  ·rcases hk p a2 (.inl ⟨_,_,_,_,rfl⟩) with h1|⟨h1,h3⟩
   ·rw [hg] at h1;cases h1
   ·rw [hg] at h1
    cases h2:ah (st i) p<;>rw [h2] at h1<;>simp [HL.kind] at h1
    obtain ⟨rfl,rfl⟩:=h1
    obtain ⟨b1,a',cap,b2,b3⟩:=a3 _ _ _ h2
    exact ⟨b1,a',cap,by rw [h3];exact b2,b3⟩
 ·rename_i i p off
  subst hid
  obtain ⟨a1,a2,a0,a3⟩:=hv
  refine ⟨kM a1 hN,a2,a0,fun hg=>?_⟩
  rcases hk p a2 (.inr (.inl ⟨_,_,rfl⟩)) with h1|⟨h1,h3⟩
  ·exact absurd h1 (kind_node.1 hg.node)
  ·obtain ⟨rvn,g,o,b1,b2,b3⟩:=a3 (OE h1 hg)
   exact ⟨rvn,g,o,by rw [h3];exact b1,b2,b3⟩
 ·rename_i i p
  subst hid
  obtain ⟨a1,a2,a0,a4,a3⟩:=hv
  refine ⟨kM a1 hN,a2,a0,fun cs hg=>?_,fun hg=>?_⟩
  ·rcases hk p a2 (.inr (.inr ⟨_,rfl⟩)) with h1|⟨h1,_⟩
   ·rw [hg] at h1;cases h1
   ·rw [hg] at h1
    cases h2:ah (st i) p<;>rw [h2] at h1<;>simp [HL.kind] at h1
    exact a4 _ h2
  rcases hk p a2 (.inr (.inr ⟨_,rfl⟩)) with h1|⟨h1,h3⟩
  ·exact absurd h1 (kind_node.1 hg.node)
  ·rw [h3];exact a3 (Og h1 hg)
theorem Dq {t:HV} {j:Nat} {p:List Nat} (h:isNode (ah t (j::p))):isNode t/\j<(lL t).length:=by
 have h1:=D8 h
 have hl:∀cs:List HV,isNode (ah (cs.getD j .dead) [])->j<cs.length:=fun cs h=>by
  rcases dL j cs.length with h'|h'
  ·exact h'
  ·simp [ah,List.getD,jb h',isNode] at h
 cases t<;>simp only [ah,isNode] at h1
 ·exact ⟨trivial,hl _ h1⟩
 ·exact ⟨trivial,hl _ h1⟩
 ·exact ⟨trivial,hl _ h1⟩
theorem Bz {t x:HV} {j:Nat} {p:List Nat} (h:isNode t):cu x t (j::p)=bu ((lL t).set j (cu x ((lL t).getD j .dead) p)) t:=by
 cases t<;>simp [isNode] at h<;>rfl
theorem xk {t:HV} {cs:List HV} {j:Nat} {p:List Nat} (h:0<(lL t).length):ah (bu cs t) (j::p)=ah (cs.getD j .dead) p:=by
 cases t<;>(try (simp [lL] at h;done))<;>rfl
theorem tX {t:HV} {j:Nat} {p:List Nat} (h:isNode t):ah t (j::p)=ah ((lL t).getD j .dead) p:=by
 cases t<;>simp [isNode] at h<;>first|rfl|simp [ah,lL,mG]
theorem qM {t x:HV} {j:Nat} {p:List Nat}:kind (cu x t (j::p))=kind t:=by cases t<;>rfl
theorem AA {t x:HV} {p:List Nat} (h:isNode (ah t p)) (r:List Nat):ah (cu x t p) (p++r)=ah x r:=by
 induction p generalizing t with
 | nil=>rfl
 | cons j p ih =>
  obtain ⟨hn,hj⟩:=Dq h
  rw [Bz hn,List.cons_append,xk (by omega)]
  rw [tX hn] at h
  have:((lL t).set j (cu x ((lL t).getD j .dead) p)).getD j .dead=cu x ((lL t).getD j .dead) p:=by simp [hj]
  rw [this];exact ih h
theorem uh {t x:HV} {p q:List Nat} (h:isNode (ah t p)) (hpq:¬ p <+: q):kind (ah (cu x t p) q)=kind (ah t q):=by
 induction p generalizing t q with
 | nil=>exact absurd List.nil_prefix hpq
 | cons j p ih =>
  obtain ⟨hn,hj⟩:=Dq h
  cases q with
  | nil=>simp only [ah];exact qM
  | cons i q =>
   rw [Bz hn,xk (by omega),tX hn]
   rw [tX hn] at h
   by_cases e:i=j
   ·subst e
    have:((lL t).set i (cu x ((lL t).getD i .dead) p)).getD i .dead=cu x ((lL t).getD i .dead) p:=by simp [hj]
    rw [this]
    exact ih h fun hp=>hpq (List.prefix_cons_inj i |>.2 hp)
   ·have:((lL t).set j (cu x ((lL t).getD j .dead) p)).getD i .dead=(lL t).getD i .dead:=by simp [List.getD,Bi (fun h=>e h.symm)]
    rw [this]
theorem Rel.mod (hr:Rel E N sl st loc fp a w) (G:HV->Prop) (hG:∀t,OW (dX E fp w) w.heap (fun v rv=>RefR N st loc w.heap v rv/\G v) [sl t] [a.tmps.getD t undef] []) (hfr:N<=fr) {ids:List Nat} (hal:∀id∈ids,st id≠.dead) {id0:Nat} (h0:id0 ∉ ids) {p:List Nat} (hp:p.length<=2) (hn:isNode (ah (st id0) p))
  {rv':Value} {f1 f' f2:List Nat} (hnav:bW w.heap (loc id0) p=some rv') (hfs:fp id0=f1++f'++f2) (hroot:∀h':Hp,(∀b∈f1++f2,h'[b]?=w.heap[b]?)->bW h' (loc id0) p=some rv'/\∀q,isNode (ah (st id0) q)->q.length<=2->¬ p <+: q->bW h' (loc id0) q=bW w.heap (loc id0) q) (hnil:p=[]->f1=[]/\f2=[])
  (rep:∀ (F':Nat->Prop) (h':Hp) t'' f'',(∀b∈f1++f2,h'[b]?=w.heap[b]?)->(∀b,dX E fp w b->F' b/\h'[b]?=w.heap[b]?)->OW F' h' dA [t''] [rv'] f''->OW F' h' dA [cu t'' (st id0) p] [loc id0] (f1++f''++f2))
  {T'':HV} {f'':List Nat} {T:HV} {rT:Value} {fT:List Nat} {w':World} {st':Lk}
  (hst':∀id,st' id=if id=fr then T else if id=id0 then cu T'' (st id0) p else if id∈ids then .dead else st id)
  (hsz:w.heap.size<=w'.heap.size) (hos:w'.os=w.os) (htape:w'.tape=w.tape) (hout:w'.output=w.output)
  (hheap:∀b,b<w.heap.size->(∀id∈ids,b ∉ fp id)->b ∉ f'->w'.heap[b]?=w.heap[b]?)
  (hT'':OW (dX E fp w) w'.heap dA [T''] [rv'] f'') (hk:kind T''=none\/kind T''=kind (ah (st id0) p)) (hd:T''=.dead->f''=[])
  (hT:OW (dX E fp w) w'.heap dA [T] [rT] fT) (hTd:T=.dead->fT=[])
  (hsub:∀b,b∈f''++fT->(w.heap.size<=b/\b<w'.heap.size)\/(∃id∈ids,b∈fp id)\/b∈f') (hnd:(f''++fT).Nodup)
  (hcell:∀r,r≠[]->r.length<=2->(∃v,dH v=some id0/\G v/\((∃i sz o n,v=.ref i (p++r) sz o n)\/(∃i o,v=.pref i (p++r) o)\/∃i,v=.mref i (p++r)))->kind (ah T'' r)=none\/(kind (ah T'' r)=kind (ah (ah (st id0) p) r)/\bW w'.heap rv' r=bW w.heap rv' r)) :
  ∃loc' fp',Rel E (fr+1) sl st' loc' fp' a w'/\loc' fr=rT/\(∀b,dX E fp w b->dX E fp' w' b/\w'.heap[b]?=w.heap[b]?)/\(∀v rv,RefR N st loc w.heap v rv->G v->RefR (fr+1) st' loc' w'.heap v rv):=by
 have hne:id0≠fr:=fun e=>bV hn (by rw [e];exact hr.new fr hfr)
 have hnf:∀id∈ids,id≠fr:=fun id h e=>hal id h (by rw [e];exact hr.new fr hfr)
 have hfnd:(f1++f'++f2).Nodup:=by rw [<- hfs];exact hr.nodup id0
 have dis1:∀b∈f1++f2,b ∉ f':=by
  intro b hb hb'
  rw [zl007] at hfnd
  obtain ⟨n1,_,n3⟩:=hfnd
  rw [zl007] at n1
  rcases zl001.1 hb with h|h
  ·exact n1.2.2 b h b hb' rfl
  ·exact n3 b (by simp [hb']) b h rfl
 have keep:∀b∈f1++f2,w'.heap[b]?=w.heap[b]?:=fun b hb=>by
  have hb0:b∈fp id0:=by rw [hfs];rcases zl001.1 hb with h|h<;>simp [h]
  exact hheap b (hr.lt id0 b hb0) (fun id hid hb'=>hr.apart id0 id (fun e=>h0 (e▸hid)) b hb0 hb') (dis1 b hb)
 have hid0:∀b,b∈f1++f''++f2->(w.heap.size<=b/\b<w'.heap.size)\/(∃id∈ids,b∈fp id)\/b∈fp id0:=fun b hb=>by
  rcases zl001.1 hb with h|h
  ·rcases zl001.1 h with h|h
   ·exact .inr (.inr (by rw [hfs];simp [h]))
   ·rcases hsub b (by simp [h]) with h'|h'|h'
    ·exact .inl h'
    ·exact .inr (.inl h')
    ·exact .inr (.inr (by rw [hfs];simp [h']))
  ·exact .inr (.inr (by rw [hfs];simp [h]))
 have hnd':=hnd
 rw [zl007] at hnd
 have nid0:(f1++f''++f2).Nodup:=by
  rw [zl007] at hfnd
  obtain ⟨n1,n2,n3⟩:=hfnd
  rw [zl007] at n1
  obtain ⟨m1,m2,m3⟩:=n1
  have sep:∀b∈f'',b ∉ f1++f2:=fun b hb hb'=>by
   have hb0:b∈fp id0:=by rw [hfs];rcases zl001.1 hb' with h|h<;>simp [h]
   rcases hsub b (by simp [hb]) with h|⟨id,hid,h⟩|h
   ·have:=hr.lt id0 b hb0;omega
   ·exact hr.apart id0 id (fun e=>h0 (e▸hid)) b hb0 h
   ·exact dis1 b hb' h
  rw [zl007,zl007]
  refine ⟨⟨m1,hnd.1,fun x hx y hy e=>?_⟩,n2,fun x hx y hy e=>?_⟩
  ·subst e;exact sep x hy (by simp [hx])
  ·subst e
   rcases zl001.1 hx with h|h
   ·exact n3 x (by simp [h]) x hy rfl
   ·exact sep x h (by simp [hy])
 have sepT:∀b∈fT,b ∉ f1++f''++f2:=fun b hb hb'=>by
  rcases zl001.1 hb' with h|h
  ·rcases zl001.1 h with h|h
   ·have hb0:b∈fp id0:=by rw [hfs];simp [h]
    rcases hsub b (by simp [hb]) with h'|⟨id,hid,h'⟩|h'
    ·have:=hr.lt id0 b hb0;omega
    ·exact hr.apart id0 id (fun e=>h0 (e▸hid)) b hb0 h'
    ·exact dis1 b (by simp [h]) h'
   ·exact hnd.2.2 b h b hb rfl
  ·have hb0:b∈fp id0:=by rw [hfs];simp [h]
   rcases hsub b (by simp [hb]) with h'|⟨id,hid,h'⟩|h'
   ·have:=hr.lt id0 b hb0;omega
   ·exact hr.apart id0 id (fun e=>h0 (e▸hid)) b hb0 h'
   ·exact dis1 b (by simp [h]) h'
 let fp':Nat->List Nat:=fun i=>if i=fr then fT else if i=id0 then f1++f''++f2 else if i∈ids then [] else fp i
 let loc':Nat->Value:=fun i=>if i=fr then rT else loc i
 have hst0:st' id0=cu T'' (st id0) p:=by rw [hst',if_neg hne,if_pos rfl]
 have hfp0:fp' id0=f1++f''++f2:=by simp [fp',hne]
 have hlc0:loc' id0=loc id0:=by simp [loc',hne]
 have:=hr.step G hG (fun i=>i=fr\/i=id0\/i∈ids) (N':=fr+1) (st':=st') (loc':=loc') (fp':=fp') (w':=w') (by omega) hsz hos htape hout
  (fun b hb h=>hheap b hb (fun id hid=>h id (.inr (.inr hid))) (fun hb'=>h id0 (.inr (.inl rfl)) (by rw [hfs];simp [hb']))) ?_ ?_ ?_ ?_ ?_ ?_ ?_ ?_
 ·exact ⟨loc',fp',this.1,by simp [loc'],this.2.1,this.2.2⟩
 ·intro id hid
  simp only [not_or] at hid
  exact ⟨by rw [hst',if_neg hid.1,if_neg hid.2.1,if_neg hid.2.2],by simp [loc',hid.1],by simp [fp',hid.1,hid.2.1,hid.2.2]⟩
 ·intro hfz id hid hdd
  rcases hid with rfl|rfl|hid
  ·have:fp' id=fT:=by simp [fp']
   rw [this,hst',if_pos rfl]
   have:loc' id=rT:=by simp [loc']
   rw [this]
   exact hT.stable (fun _ _=>rfl) (fun b hb=>⟨(hfz b hb).1,rfl⟩) (fun _ _ h=>h)
  ·rw [hst0,hlc0,hfp0]
   exact rep _ _ _ _ keep (fun b hb=>hfz b hb) (hT''.stable (fun _ _=>rfl) (fun b hb=>⟨(hfz b hb).1,rfl⟩) (fun _ _ h=>h))
  ·rw [hst',if_neg (hnf id hid),if_neg (show id≠id0 from fun e=>h0 (e▸hid)),if_pos hid] at hdd
   exact absurd rfl hdd
 ·intro id hid hdd
  rcases hid with rfl|rfl|hid
  ·rw [hst',if_pos rfl] at hdd
   have:fp' id=fT:=by simp [fp']
   rw [this];exact hTd hdd
  ·rw [hst0] at hdd
   match p,hn with
   | [],_ =>
    obtain ⟨rfl,rfl⟩:=hnil rfl
    rw [hfp0,hd (by simpa [cu] using hdd)];rfl
   | j::p',hn =>
    have h2:kind (cu T'' (st id) (j::p'))=kind (st id):=qM
    rw [hdd] at h2
    exact absurd h2.symm (kind_node.1 (Dq hn).1)
  ·simp [fp',hnf id hid,show id≠id0 from fun e=>h0 (e▸hid),hid]
 ·intro id hid hge
  rcases hid with rfl|rfl|hid
  ·omega
  ·have:=hr.new id (by omega);exact absurd this (bV hn)
  ·exact absurd (hr.new id (by omega)) (hal id hid)
 ·intro id hid b hb
  rcases hid with rfl|rfl|hid
  ·have e:fp' id=fT:=by simp [fp']
   rw [e] at hb
   rcases hsub b (by simp [hb]) with h|⟨j,hj,h⟩|h
   ·exact .inl h
   ·exact .inr ⟨j,.inr (.inr hj),h⟩
   ·exact .inr ⟨id0,.inr (.inl rfl),by rw [hfs];simp [h]⟩
  ·rw [hfp0] at hb
   rcases hid0 b hb with h|⟨j,hj,h⟩|h
   ·exact .inl h
   ·exact .inr ⟨j,.inr (.inr hj),h⟩
   ·exact .inr ⟨id,.inr (.inl rfl),h⟩
  ·simp [fp',hnf id hid,show id≠id0 from fun e=>h0 (e▸hid),hid] at hb
 ·intro id hid
  rcases hid with rfl|rfl|hid
  ·have e:fp' id=fT:=by simp [fp']
   rw [e];exact hnd.2.1
  ·rw [hfp0];exact nid0
  ·simp [fp',hnf id hid,show id≠id0 from fun e=>h0 (e▸hid),hid]
 ·intro i j hi hj hij b hb hb'
  have eF:fp' fr=fT:=by simp [fp']
  have eI:∀id∈ids,fp' id=[]:=fun id hid=>by simp [fp',hnf id hid,show id≠id0 from fun e=>h0 (e▸hid),hid]
  rcases hi with rfl|rfl|hi
  ·rcases hj with rfl|rfl|hj
   ·exact hij rfl
   ·rw [eF] at hb;rw [hfp0] at hb';exact sepT b hb hb'
   ·rw [eI j hj] at hb';cases hb'
  ·rcases hj with rfl|rfl|hj
   ·rw [eF] at hb';rw [hfp0] at hb;exact sepT b hb' hb
   ·exact hij rfl
   ·rw [eI j hj] at hb';cases hb'
  ·rw [eI i hi] at hb;cases hb
 ·intro v rv id hv hgv hid hx
  have hlt:=hv.isRef
  obtain ⟨id',h1,h2⟩:=hlt
  rw [hid] at h1;cases h1
  rcases hx with rfl|rfl|hx
  ·omega
  ·refine hv.kind hid (by omega) ?_
   intro q hq hvq
   rw [hst0,hlc0]
   obtain ⟨n1,n2⟩:=hroot w'.heap keep
   by_cases hpq:p <+: q
   ·obtain ⟨r,rfl⟩:=hpq
    rw [AA hn,vH n1,vH hnav,nK]
    by_cases hr0:r=[]
    ·subst hr0
     rcases hk with h|h
     ·exact .inl h
     ·exact .inr ⟨h,rfl⟩
    ·exact hcell r hr0 (by simp at hq;omega) ⟨v,hid,hgv,hvq⟩
   ·by_cases hnq:isNode (ah (st id) q)
    ·exact .inr ⟨uh hn hpq,n2 q hnq hq hpq⟩
    ·left
     rw [uh hn hpq]
     cases hh:kind (ah (st id) q) with
     | none=>rfl
     | some x=>exact absurd (kind_node.2 (by rw [hh];simp)) hnq
  ·refine hv.kind hid (by omega) fun q _ _=>.inl ?_
   rw [hst',if_neg (hnf id hx),if_neg (show id≠id0 from fun e=>h0 (e▸hx)),if_pos hx,mG];rfl
end
theorem pY (rs:List Value) (off:Nat) (vs:List Value):(bJ rs off vs).length=rs.length:=by
 induction vs generalizing rs off with
 | nil=>rfl
 | cons v vs ih=>rw [bJ,ih];simp
theorem lS (l:List Value) (o m:Nat):∀ (vs:List Value) (off:Nat),((bJ l (o+off) vs).drop o).take m=bJ ((l.drop o).take m) off vs:=by
 intro vs
 induction vs generalizing l with
 | nil=>intro off;rfl
 | cons v vs ih =>
  intro off
  simp only [bJ]
  rw [uw,ih]
  congr 1
  rw [List.drop_set,if_neg (by omega),List.take_set]
  congr 1
  omega
theorem oI (g:Nat):∀ (vs:List Value) (o:Nat) (w:World) (cur:Array Value) (e:TypeId),w.heap[g]?=some (.cells cur e (0,0)) ->
  ∃cur',(w.setCells g o vs).heap[g]?=some (.cells cur' e (0,0))/\cur'.toList=bJ cur.toList o vs/\cur'.size=cur.size:=by
 intro vs
 induction vs with
 | nil=>intro o w cur e h;exact ⟨cur,h,rfl,rfl⟩
 | cons v vs ih =>
  intro o w cur e h
  obtain ⟨cur',h1,h2,h3⟩:=ih (o+1) (w.setCell ⟨g,o,none⟩ v) (cur.setIfInBounds o v) e (heap_setCell_same w g o cur e v h)
  exact ⟨cur',h1,by rw [h2,bJ];simp,by rw [h3];simp⟩
theorem mM (g:Nat):∀ (vs:List Value) (o:Nat) (w:World) (b:Nat),b≠g->(w.setCells g o vs).heap[b]?=w.heap[b]?:=by
 intro vs
 induction vs with
 | nil=>intro o w b _;rfl
 | cons v vs ih=>intro o w b h;exact (ih (o+1) _ b h).trans (heap_setCell_other w ⟨g,o,none⟩ b v h)
theorem oH (g:Nat):∀ (vs:List Value) (o:Nat) (w:World),(w.setCells g o vs).heap.size=w.heap.size/\(w.setCells g o vs).os=w.os/\(w.setCells g o vs).tape=w.tape/\(w.setCells g o vs).output=w.output:=by
 intro vs
 induction vs with
 | nil=>intro o w;exact ⟨rfl,rfl,rfl,rfl⟩
 | cons v vs ih=>intro o w;obtain ⟨h1,h2,h3,h4⟩:=ih (o+1) (w.setCell ⟨g,o,none⟩ v);exact ⟨h1.trans (by simp),h2,h3,h4⟩
theorem OW.setFromOwn {F:Nat->Prop} {h:Hp} {R:HV->Value->Prop}:∀ {ts:List HV} {rts:List Value} {ff:List Nat} {cs:List HV} {rvs:List Value} {fs:List Nat} (off:Nat),OW F h R cs rvs fs->OW F h R ts rts ff->off+ts.length<=cs.length->fs.Nodup->ff.Nodup->(∀b∈ff,b ∉ fs) ->
  ∃fs2,OW F h R (HL.setFrom cs off ts) (bJ rvs off rts) fs2/\(∀b∈fs2,b∈fs\/b∈ff)/\fs2.Nodup:=by
 intro ts
 induction ts with
 | nil =>
  intro rts ff cs rvs fs off o o2 _ h1 _ _
  cases rts with
  | nil=>exact ⟨fs,o,fun b hb=>.inl hb,h1⟩
  | cons=>exact absurd o2.length (by simp)
 | cons t ts ih =>
  intro rts ff cs rvs fs off o o2 hl h1 h2 h3
  cases rts with
  | nil=>exact absurd o2.length (by simp)
  | cons rt rts =>
   obtain ⟨g1,g2,rfl,o3,o4⟩:=o2.split1
   simp only [List.length_cons] at hl
   obtain ⟨rv0,f1,f2,f3,_,e2,_,rep⟩:=o.at off (by omega)
   subst e2
   have on:=rep F h R t rt g1 (by simp) (fun b hb=>⟨hb,rfl⟩) (fun _ _ h=>h) o3
   rw [zl007] at h2
   obtain ⟨n1,n2,n3⟩:=h2
   have nd:(f1++g1++f3).Nodup:=by
    rw [zl007,zl007] at h1 ⊢
    obtain ⟨⟨a1,a2,a3⟩,a4,a5⟩:=h1
    refine ⟨⟨a1,n1,fun x hx y hy e=>?_⟩,a4,fun x hx y hy e=>?_⟩
    ·subst e;exact h3 x (by simp [hy]) (by simp [hx])
    ·subst e
     rcases zl001.1 hx with h|h
     ·exact a5 x (by simp [h]) x hy rfl
     ·exact h3 x (by simp [h]) (by simp [hy])
   obtain ⟨fs2,o5,s5,n5⟩:=ih (off+1) on o4 (by simp;omega) nd n2 (fun b hb hb'=>by
    rcases zl001.1 hb' with h|h
    ·rcases zl001.1 h with h|h
     ·exact h3 b (by simp [hb]) (by simp [h])
     ·exact n3 b h b hb rfl
    ·exact h3 b (by simp [hb]) (by simp [h]))
   refine ⟨fs2,o5,fun b hb=>?_,n5⟩
   rcases s5 b hb with h|h
   ·simp only [zl001] at h ⊢
    rcases h with (h|h)|h
    ·exact .inl (.inl (.inl h))
    ·exact .inr (.inl h)
    ·exact .inl (.inr h)
   ·exact .inr (by simp [h])
theorem OW.renode {F F':Nat->Prop} {h h':Hp} {nd:HV} {rv':Value} {g o:Nat} {fs' fs2:List Nat} {cs':List HV} {cur cur':Array Value} {e:TypeId} (on:OW F h dA [nd] [rv'] (g::fs')) (hb:je rv'=some (g,o)) (hk:0<(aJ nd).length)
  (hg:h[g]?=some (.cells cur e (0,0))) (hg':h'[g]?=some (.cells cur' e (0,0))) (hs:cur'.size=cur.size) (hc:OW F' h' dA cs' ((cur'.toList.drop o).take cs'.length) fs2) (hl:cs'.length=(aJ nd).length):OW F' h' dA [bu cs' nd] [rv'] (g::fs2):=by
 generalize hfs:g::fs'=fs at on
 cases on with
 | osl h1 h2 h3 h4 h5 h6 h7 h8 =>
  cases h8
  simp only [je,bY,kD] at hb
  obtain ⟨rfl,rfl⟩:=hb
  rw [hg] at h1
  cases h1
  have:=OW.osl (F:=F') (h:=h') (R:=dA) hg' (hl.trans h2) rfl (h4.trans hs.symm) h5 h6 hc .nil
  simpa [bu] using this
 | @optr _ cs g1 cur1 e1 f1 _ _ _ h1 h7 h8 =>
  cases h8
  simp only [je,bY,kD] at hb
  obtain ⟨rfl,rfl⟩:=hb
  rw [hg] at h1
  cases h1
  have h9:=h7.length
  simp only [List.drop_zero] at hc
  rw [mW (by simp only [aJ] at hl;simp at h9 ⊢;omega)] at hc
  have:=OW.optr (F:=F') (h:=h') (R:=dA) hg' hc .nil
  simpa [bu] using this
 | leaf _ _ _ _ _ _ hr=>exact hr.elim
 | _=>simp [aJ] at hk
section
variable {P:Program} {E:Fr} {N fr:Nat} {sl st:Lk} {loc:Nat->Value} {fp:Nat->List Nat} {a:Act} {w:World} {o:Oper}
theorem EK {t:HV} (h:isPt t):lL t=aJ t:=by cases t<;>simp [isPt] at h<;>rfl
theorem jK {cs:List HV} {t:HV}:kind (bu cs t)=kind t:=by cases t<;>rfl
theorem xR (cs:List HV):∀ (ts:List HV) (off j:Nat),j<off\/off+ts.length<=j->(setFrom cs off ts).getD j .dead=cs.getD j .dead:=by
 intro ts
 induction ts generalizing cs with
 | nil=>intro off j _;rfl
 | cons t ts ih =>
  intro off j h
  simp only [List.length_cons] at h
  rw [setFrom,ih _ (off+1) j (by omega)]
  simp only [List.getD,List.getElem?_set]
  rw [if_neg (by omega)]
theorem Ip (cs:List HV):∀ (ts:List HV) (off j:Nat),off<=j->j<off+ts.length->off+ts.length<=cs.length->(setFrom cs off ts).getD j .dead∈ts:=by
 intro ts
 induction ts generalizing cs with
 | nil=>intro off j h1 h2;simp at h2;omega
 | cons t ts ih =>
  intro off j h1 h2 h3
  simp only [List.length_cons] at h2 h3
  by_cases hj:j=off
  ·subst hj
   rw [setFrom,xR _ _ _ _ (.inl (by omega))]
   simp [List.getD,show j<cs.length by omega]
  ·rw [setFrom]
   exact nG _ (ih _ (off+1) j (by omega) (by omega) (by simp;omega))
theorem Ee:∀ (vs:List Value) (l:List Value) (off k:Nat),k<off\/off+vs.length<=k->(bJ l off vs)[k]?=l[k]?:=by
 intro vs
 induction vs with
 | nil=>intro l off k _;rfl
 | cons v vs ih=>intro l off k h;simp only [List.length_cons] at h;rw [bJ,ih _ (off+1) k (by omega),Bi (by omega)]
theorem zn {F:Nat->Prop} {t:HV} {cs1:List HV} {off g o:Nat} {rv':Value} {cur cur':Array Value} {e:TypeId} {fz:Nat×Nat} {vs:List Value} {fs':List Nat} {w':World} (ht:isPt t) (hk0:0<(aJ t).length) (hf:aZ cs1=true) (hoff:off+cs1.length<=(aJ t).length) (b2:je rv'=some (g,o))
  (c2:w.heap[g]?=some (.cells cur e fz)) (d1:w'.heap[g]?=some (.cells cur' e fz)) (d2:cur'.toList=bJ cur.toList (o+off) vs) (hvs:vs.length=cs1.length) (oth:∀b,b≠g->w'.heap[b]?=w.heap[b]?)
  (c4:OW F w.heap dA (aJ t) ((cur.toList.drop o).take (aJ t).length) fs') (hg:g ∉ fs'):∀r,r≠[]->r.length<=2 ->
   kind (ah (bu (setFrom (aJ t) off cs1) t) r)=none\/(kind (ah (bu (setFrom (aJ t) off cs1) t) r)=kind (ah t r)/\bW w'.heap rv' r=bW w.heap rv' r):=by
 intro r hr hl
 cases r with
 | nil=>exact absurd rfl hr
 | cons j r =>
  rw [xk (by rw [EK ht];exact hk0),tX ht.node,EK ht]
  by_cases hj:off<=j/\j<off+cs1.length
  ·left
   have hm:=Ip (aJ t) cs1 off j hj.1 hj.2 (by omega)
   have hf:=(zl014.1 hf) _ hm
   generalize (setFrom (aJ t) off cs1).getD j .dead=u at *
   cases r<;>cases u<;>simp [fH,kind,ah] at hf ⊢
  ·rw [xR _ _ _ _ (by omega)]
   by_cases hk:kind (ah ((aJ t).getD j .dead) r)=none
   ·exact .inl hk
   ·right
    refine ⟨rfl,?_⟩
    have hnode:=kind_node.2 hk
    have hcell:bW w'.heap rv' [j]=bW w.heap rv' [j]:=by
     simp only [bW,b2,kC d1,kC c2]
     rw [<- kz,<- kz,d2]
     exact Ee _ _ _ _ (by omega)
    match r,hl with
    | [],_=>exact hcell
    | [l],_ =>
     have hjl:j<(aJ t).length:=by
      rcases dL j (aJ t).length with h'|h'
      ·exact h'
      ·rw [dW,jb h'] at hnode
       exact hnode.elim
     obtain ⟨rvj,f1,f2,f3,e1,e2,o2,-⟩:=c4.at j hjl
     obtain ⟨rvl,d1',d',d2',m1,m2,o3,⟨gj,oj,hb,hgj⟩,-⟩:=o2.focus1 hnode
     have hne:gj≠g:=fun e=>hg (by rw [e2,m2,<- e];simp [hgj])
     have ej:bW w.heap rv' [j]=some rvj:=by
      simp only [bW,b2,kC c2]
      rw [oO,if_pos hjl] at e1
      simpa using e1
     rw [iV ej,iV (hcell.trans ej)]
     simp only [bW,hb,mP,oth gj hne]
theorem Gu (hr:Rel E N sl st loc fp a w) (hfr:N<=fr) {t:TypeId} {i:TypeInfo} (hi:P.info? t=some i) (flat:Bool) {x y:HV} {rx ry:Value} (hx:V E N st loc fp w x rx) (hy:V E N st loc fp w y ry) (hvc:(ae st fr (.store flat i.size x y)).2.2) :
  ∃w',(Instr.storeAt t rx ry).run P w=.ok () w'/\After E (fr+1) sl st (ae st fr (.store flat i.size x y)).2.1 .dead undef a w':=by
 cases x<;>simp only [ae] at hvc ⊢<;>(first|exact hvc.elim|skip)
 rename_i id p off
 obtain ⟨v1,v2,v3,v4,v5⟩:=hvc
 have hyd:y≠.dead:=by rintro rfl;simp [cellsOf,dO,takeC] at v1
 have hc:=hy.cells hyd (fun _ _ h=>h.cells)
 obtain ⟨ff,ids,T⟩:=uI hr (fun id=>.inl rfl) hc v1
 generalize dO st (cellsOf y)=r at *
 have hup:=T.upd
 have h0:id ∉ ids:=fun h=>by
  rw [hup,if_pos h,mG] at v4
  simp [aJ] at v4
  omega
 have htid:Lk.upd st r.2.1 id=st id:=by rw [hup,if_neg h0]
 rw [htid] at v4 ⊢
 have hklen:0<(aJ (ah (st id) p)).length:=by omega
 have hpt:=pV hklen
 have hnode:=hpt.node
 obtain ⟨hid,hp,_,hn⟩:=nU hx
 obtain ⟨rv',f1,f',f2,e1,e2,e3,e4,hnil,rep⟩:=(hr.tree id (bV hnode)).focus hp hnode
 obtain ⟨rvn,g,o,b1,b2,rfl⟩:=hn hpt
 rw [e1] at b1
 cases b1
 obtain ⟨cur,e,fs',c2,rfl,c4⟩:=e3.node b2 hklen
 have hlt:=T.own.length
 have cl:=c4.length
 simp only [gB,lT,oP] at cl hlt
 obtain ⟨cur',d1,d2,d3⟩:=oI g ry.cells.toList (o+off) w cur e c2
 obtain ⟨m1,m2,m3,m4⟩:=oH g ry.cells.toList (o+off) w
 have oth:=mM g ry.cells.toList (o+off) w
 generalize hw':w.setCells g (o+off) ry.cells.toList=w' at *
 have hgfp:g∈fp id:=by rw [e2];simp
 have gnf:¬ dX E fp w g:=fun h=>h.2.2 id hgfp
 have hfnd:(f1++(g::fs')++f2).Nodup:=by rw [<- e2];exact hr.nodup id
 have gnd:g ∉ fs'/\fs'.Nodup:=by
  rw [zl007,zl007] at hfnd
  exact zl027.1 hfnd.1.2.1
 have gff:g ∉ ff:=fun h=>by
  obtain ⟨j,hj,h'⟩:=T.from_ g h
  exact hr.apart id j (fun e=>h0 (e▸hj)) g hgfp h'
 have stab:∀ {vs rvs fs},OW (dX E fp w) w.heap dA vs rvs fs->g ∉ fs->OW (dX E fp w) w'.heap dA vs rvs fs:=fun ho hg =>
  ho.stable (fun b hb=>oth b (fun e=>hg (e▸hb))) (fun b hb=>⟨hb,oth b (fun e=>gnf (e▸hb))⟩) (fun _ _ h=>h)
 obtain ⟨fs2,o5,s5,n5⟩:=OW.setFromOwn off (stab c4 gnd.1) (stab T.own gff) (by omega) gnd.2 T.nodup (fun b hb hb'=>by
  obtain ⟨j,hj,h'⟩:=T.from_ b hb
  exact hr.apart id j (fun e=>h0 (e▸hj)) b (by rw [e2];simp [hb']) h')
 have hl':(setFrom (aJ (ah (st id) p)) off r.1).length=(aJ (ah (st id) p)).length:=qU _ _ _
 have onode:=e3.renode b2 hklen c2 d1 d3 (cs':=setFrom (aJ (ah (st id) p)) off r.1) (fs2:=fs2) (F':=dX E fp w) (by rw [hl',d2,lS];exact o5) hl'
 have rn:=run_storeCells_cells (P:=P) g (o+off) ry.cells.toList 0 w
  (fun j hj=>by
   rw [jf]
   simp only [cellAt,c2]
   rw [Nat.add_zero]
   have:o+off+j<cur.size:=by simp at hj;omega
   simp [this])
  (fun j hj=>by unfold World.frozen?;simp [c2])
  (fun v hv=>T.one v hv)
 have hrun:(Instr.storeAt t (.pointer (some ⟨g,o+off,none⟩)) ry).run P w=.ok () w':=by
  have hsz:ry.cells.size=i.size:=by omega
  simp only [Nat.add_zero] at rn
  simp [Instr.storeAt,Instr.sureAddr,storeVar,sizeOf,typeInfo,hi,hsz,rn,hw']
 refine ⟨w',hrun,?_⟩
 have slus:qF sl (r.2.1++(if flat then [] else [.kill id p.length])++[.put id (cu (bu (setFrom (aJ (ah (st id) p)) off r.1) (ah (st id) p)) (st id) p)])=if flat then sl else (fun t=>(sl t).kill id p.length):=by
  rw [dG,dG,T.sl]
  cases flat<;>rfl
 have stus:∀j,Lk.upd st (r.2.1++(if flat then [] else [.kill id p.length])++[.put id (cu (bu (setFrom (aJ (ah (st id) p)) off r.1) (ah (st id) p)) (st id) p)]) j=if j=fr then .dead else if j=id then cu (bu (setFrom (aJ (ah (st id) p)) off r.1) (ah (st id) p)) (st id) p else if j∈ids then .dead else st j:=fun j=>by
  have hidfr:id≠fr:=by omega
  have e:Lk.upd st (r.2.1++(if flat then [] else [.kill id p.length])++[.put id (cu (bu (setFrom (aJ (ah (st id) p)) off r.1) (ah (st id) p)) (st id) p)]) j=if j=id then cu (bu (setFrom (aJ (ah (st id) p)) off r.1) (ah (st id) p)) (st id) p else Lk.upd st r.2.1 j:=by
   rw [bQ,bQ]
   cases flat<;>rfl
  rw [e,hup]
  by_cases h1:j=id
  ·simp [h1,hidfr]
  ·by_cases h2:j=fr
   ·subst h2
    have hd:=hr.new j hfr
    simp [h1,hd]
   ·simp [h1,h2]
 have ehp:∀b,b<w.heap.size->(∀id∈ids,b ∉ fp id)->b ∉ g::fs'->w'.heap[b]?=w.heap[b]?:=fun b _ _ hb=>oth b (fun e=>hb (by simp [e]))
 have hsub:∀b,b∈(g::fs2)++[]->(w.heap.size<=b/\b<w'.heap.size)\/(∃id∈ids,b∈fp id)\/b∈g::fs':=fun b hb=>by
  simp only [List.append_nil,zl008] at hb
  rcases hb with rfl|hb
  ·exact .inr (.inr (by simp))
  ·rcases s5 b hb with h|h
   ·exact .inr (.inr (by simp [h]))
   ·exact .inr (.inl (T.from_ b h))
 have hnd:((g::fs2)++[]).Nodup:=by
  simp only [List.append_nil,zl027]
  exact ⟨fun h=>by rcases s5 g h with h|h;exact gnd.1 h;exact gff h,n5⟩
 have hnd0:bu (setFrom (aJ (ah (st id) p)) off r.1) (ah (st id) p)=.dead->(g::fs2)=[]:=fun h=>by
  have:=jK (cs:=setFrom (aJ (ah (st id) p)) off r.1) (t:=ah (st id) p)
  rw [h] at this
  exact absurd this.symm (kind_node.1 hnode)
 have hcell:∀ (G:HV->Prop),(flat=false->∀v i' q,G v->((∃sz o n,v=.ref i' q sz o n)\/(∃o,v=.pref i' q o)\/v=.mref i' q)->¬ (i'=id/\p.length<q.length))->∀r',r'≠[]->r'.length<=2->(∃v,dH v=some id/\G v/\((∃i sz o n,v=.ref i (p++r') sz o n)\/(∃i o,v=.pref i (p++r') o)\/∃i,v=.mref i (p++r'))) ->
   kind (ah (bu (setFrom (aJ (ah (st id) p)) off r.1) (ah (st id) p)) r')=none\/(kind (ah (bu (setFrom (aJ (ah (st id) p)) off r.1) (ah (st id) p)) r')=kind (ah (ah (st id) p) r')/\bW w'.heap rv' r'=bW w.heap rv' r'):=by
  intro G hGk r' hr' hl2 hv
  cases hfl:flat
  ·obtain ⟨v,hvid,hgv,hvq⟩:=hv
   have hlen:0<r'.length:=List.length_pos_iff.2 hr'
   exfalso
   rcases hvq with ⟨i',sz,o',n,rfl⟩|⟨i',o',rfl⟩|⟨i',rfl⟩
   ·simp only [dH,bY] at hvid
    exact hGk hfl _ i' (p++r') hgv (.inl ⟨_,_,_,rfl⟩) ⟨hvid,by simp;omega⟩
   ·simp only [dH,bY] at hvid
    exact hGk hfl _ i' (p++r') hgv (.inr (.inl ⟨_,rfl⟩)) ⟨hvid,by simp;omega⟩
   ·simp only [dH,bY] at hvid
    exact hGk hfl _ i' (p++r') hgv (.inr (.inr rfl)) ⟨hvid,by simp;omega⟩
  ·exact zn hpt hklen (v5 hfl) (by omega) b2 c2 d1 d2 (by simp;omega) oth c4 gnd.1 r' hr' hl2
 cases hfl:flat
 ·obtain ⟨hk1,hk2⟩:=hr.kill id p.length
  obtain ⟨loc',fp',q1,q2,q3,q4⟩:=hk1.mod _ hk2 hfr (fun j hj=>(T.alive j hj).2) h0 hp hnode e1 e2 e4 hnil rep stus (by omega) m2 m3 m4 ehp onode (.inr jK) hnd0 (.dead .nil:OW (dX E fp w) w'.heap dA [.dead] [undef] []) (fun _=>rfl) hsub hnd (hcell _ (fun _ v i' q hg hv=>hg i' q hv))
  rw [hfl] at q1 slus
  exact ⟨loc',fp',by rw [slus];exact q1,.dead .nil⟩
 ·obtain ⟨loc',fp',q1,q2,q3,q4⟩:=hr.mod _ hr.all hfr (fun j hj=>(T.alive j hj).2) h0 hp hnode e1 e2 e4 hnil rep stus (by omega) m2 m3 m4 ehp onode (.inr jK) hnd0 (.dead .nil:OW (dX E fp w) w'.heap dA [.dead] [undef] []) (fun _=>rfl) hsub hnd (hcell _ (fun h=>by rw [hfl] at h;cases h))
  rw [hfl] at q1 slus
  exact ⟨loc',fp',by rw [slus];exact q1,.dead .nil⟩
end
end Go.HL
end
