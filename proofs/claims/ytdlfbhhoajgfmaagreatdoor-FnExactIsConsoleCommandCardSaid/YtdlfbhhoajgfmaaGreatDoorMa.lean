/- What functions of the program come to, and what that says in plain words: part 1. -/
import Derived.Test.YtdlfbhhoajgfmaaGreatDoorTXh
import Derived.Test.YtdlfbhhoajgfmaaGreatDoorProg
import Derived.Test.YtdlfbhhoajgfmaaGreatDoorSh
import Derived.Lib.SplitLaws
import Derived.Lib.ParseIntB
import Derived.Lib.ItoaMem
import Derived.Test.YtdlfbhhoajgfmaaGreatDoorTXq
import Derived.WalkKit
import Derived.Lib.Walk
import Derived.Lib.ItoaLen
import Derived.Test.YtdlfbhhoajgfmaaGreatDoorTXi
set_option linter.unusedSimpArgs false
set_option linter.unusedVariables false
open Bool renaming and_eq_true → q8
open Int renaming toNat_natCast → q9
open List renaming length_cons → w3
open Bool renaming or_true → w4
open Bool renaming cond_self → w5
open List renaming getElem?_eq_some_iff → w6
open Int renaming toNat → w7
open List renaming length → w8
open Option renaming getD → w9
open Go.IntKind renaming wrap → zQ
open List renaming mem_singleton → zW
namespace Go.SX
open Go.Proofs
def T3z {P : Program} (l : List (PF P)) : List (PF P) :=l.flatMap fun p=>[p,PF.lend p,PF.fz p]
abbrev yx:Type:=ByteArray
abbrev yq:CTy:=(CTy.sl 28 (CTy.pair CTy.str (CTy.pair (CTy.int IntKind.i64) CTy.fn)))
abbrev yt:CTy:=(CTy.pair CTy.str (CTy.pair (CTy.int IntKind.i64) CTy.fn))
abbrev yu:CTy:=(CTy.int IntKind.i64)
abbrev yw:Type:=List Int
abbrev yC:=Entry.row true 2 yu
abbrev yD:=Entry.row false 9 (CTy.str)
abbrev yE:=Entry.row true 9 (CTy.str)
abbrev yA(c:Cell):SV:=.one ⟨false,[c]⟩
abbrev yB(a:Int):SV:=.one ⟨false,[.val (.int .i64 a)]⟩
abbrev yy:Type:=List SV→List Entry→Option Out
abbrev yz(a:Int):Cell:=.val (.int .i64 a)
end Go.SX
namespace Go.SX
open Go.Proofs Go.Proofs.Tryz
set_option maxRecDepth 100000
theorem cq:Tryz.prog.follows .mixedOrders=true:=by kernel_rfl
section
variable (a:yx)
def eS:Bool:=ByteArray.toList a==ByteArray.toList (ByteArray.mk #[115,104,111,119])
def eT:Bool:=ByteArray.toList a==ByteArray.toList (ByteArray.mk #[109,111,100,101])
def eU:Bool:=ByteArray.toList a==ByteArray.toList (ByteArray.mk #[115,101,99,117,114,101])
def eV:Bool:=ByteArray.toList a==ByteArray.toList (ByteArray.mk #[109,111,118,101])
def eW:Bool:=ByteArray.toList a==ByteArray.toList (ByteArray.mk #[108,111,99,107])
def eX:Bool:=ByteArray.toList a==ByteArray.toList (ByteArray.mk #[117,110,108,111,99,107])
def eY:Bool:=ByteArray.toList a==ByteArray.toList (ByteArray.mk #[112,101,114,102,111,114,109])
def eZ:Bool:=ByteArray.toList a==ByteArray.toList (ByteArray.mk #[100,97,121])
def fa:Bool:=ByteArray.toList a==ByteArray.toList (ByteArray.mk #[99,108,111,115,101])
def fb:Bool:=ByteArray.toList a==ByteArray.toList (ByteArray.mk #[108,105,102,116])
def ey:Bool:=ByteArray.toList a==ByteArray.toList (ByteArray.mk #[116,97,115,107])
def ez:Bool:=ByteArray.toList a==ByteArray.toList (ByteArray.mk #[112,97,100,108,111,99,107])
def eA:Bool:=ByteArray.toList a==ByteArray.toList (ByteArray.mk #[116,97,107,101,111,102,102])
def eB:Bool:=ByteArray.toList a==ByteArray.toList (ByteArray.mk #[99,104,101,99,107])
def eC:Bool:=ByteArray.toList a==ByteArray.toList (ByteArray.mk #[110,101,119])
def eD:Bool:=ByteArray.toList a==ByteArray.toList (ByteArray.mk #[99,111,109,109,97,110,100])
def eE:Bool:=ByteArray.toList a==ByteArray.toList (ByteArray.mk #[102,97,117,108,116])
def aV:Int:=bif bif eS a then eS a else bif eT a then eT a else bif eU a then eU a else ByteArray.toList a==ByteArray.toList (ByteArray.mk #[109,111,118,101,115])then(0:Int)else bif bif eV a then eV a else bif eW a then eW a else bif eX a then eX a else bif eY a then eY a else bif eZ a then eZ a else ByteArray.toList a==ByteArray.toList (ByteArray.mk #[114,101,115,116,114,97,105,110,116,115])then(1:Int)else bif bif fa a then fa a else bif fb a then fb a else bif ey a then ey a else bif ez a then ez a else bif eA a then eA a else bif eB a then eB a else ByteArray.toList a==ByteArray.toList (ByteArray.mk #[114,101,112,108,97,121])then(2:Int)else bif bif eC a then eC a else bif eD a then eD a else bif eE a then eE a else ByteArray.toList a==ByteArray.toList (ByteArray.mk #[108,111,99,107,102,97,117,108,116])then(3:Int)else(-1:Int)
end
def kt:yy
 | [.one ⟨false,[.val (.string a)]⟩],[]=>some ⟨yB (aV a),[],[],[]⟩
 |_,_=>none
def ky:PF prog:=PF.ofG prog [] [] cq 10 f10 func10 (fun c _=>LOk.nil c) kt (by
 intro _ _ _ h;unfold kt at h;split at h<;>cases h;kernel_rfl)
abbrev br:=Int×yx×Int×Int×List yx
section
variable (a:Int)(b:yx)(c d:Int)(e:List yx)
def fy:Bool:= !(!a==(↑(ByteArray.size b):Int)&&true)
def bm:Bool:=bif a==(↑(ByteArray.size b):Int)then true else(↑(UInt8.toNat (w9 b[w7 a]? (0:UInt8))):Int)==c
def fP:Bool:=leI a (↑(ByteArray.size b):Int)
def iK:Bool:=fy a b||leI 0 a
def fQ:Bool:=fy a b||ltI a (↑(ByteArray.size b):Int)
def iL:Bool:= !bm a b c||leI 0 d
def iM:Bool:= !bm a b c||leI d a
def iN:Bool:= !bm a b c||leI a (↑(ByteArray.size b):Int)
def iO:Bool:= !bm a b c||leN (w8 e + w8 [ByteArray.extract b d.toNat a.toNat]) 9223372036854775807
def iP:Bool:= !bm a b c||leN ((w8 e + w8 [ByteArray.extract b d.toNat a.toNat]) * 16) 140737488355328
def iQ:Bool:=bm a b c
def dY:Int:=zQ .i64 (a + (1:Int))
def ia:List yx:=e++ [ByteArray.extract b d.toNat a.toNat]
end
def lZ:br→List (Nat×SV)
 |(a,b,c,d,_)=> [(7,(yB a)),(0,(yA (.val (.string b)))),(1,(yA (.val (.int IntKind.u8 c)))),(5,(yA (.ref 0))),(6,(yB d))]
def lW:br→List (Nat×Entry)
 |(_,_,_,_,a)=> [(0,(yE a))]
def mf:Nat→br→List (Nat×SV)
 |_,(_,_,_,_,_)=> [(5,(yA (.ref 0)))]
def fo:br→LT br
 |(a,b,c,d,e)=> .ite (fP a b) (.need [iK a b,fQ a b] (.need [iL a b c d,iM a b c d,iN a b c,iO a b c d e,iP a b c d e] (.ite (iQ a b c) (.nrm ((dY a),b,c,dY a,(ia a b d e)) [(0,1408)]) (.nrm ((dY a),b,c,d,e) [(0,0)])))) (.ext 0 [(0,0)])
def fu(s:St):Option br:=do
 let some ⟨none,.one ⟨false,[.val (.int .i64 a)]⟩⟩:=s.look 7|none
 let some ⟨none,.one ⟨false,[.val (.string b)]⟩⟩:=s.look 0|none
 let some ⟨none,.one ⟨false,[.val (.int IntKind.u8 c)]⟩⟩:=s.look 1|none
 let some ⟨none,.one ⟨false,[.ref 128]⟩⟩:=s.look 5|none
 let some ⟨none,.one ⟨false,[.val (.int .i64 d)]⟩⟩:=s.look 6|none
 let some (.row true 9 (.str) e):=s.ent 128|none
 some (a,b,c,d,e)
def aq:Lp br where
 h:=⟨[9,10,11,12,15,16,17,18,19,20,21,22,23,24,25,26,27,28,29,30,31,32,5,33,34,6,13,14,7],[],[0],[]⟩
 JL:=lZ
 JE:=lW
 XL:=mf
 XE:=fun _=>lW
 q:=fun j=>match j with | _=> .exit 0
 tags:= [0]
 lt:=fo
 fuel:=fun(a,b,c,d,e)=>a.natAbs + b.size + c.natAbs + d.natAbs + e.length
 fix:=fun(_,b,c,_,_) (a,_,_,d,e)=>(a,b,c,d,e)
 σ:= [(0,128)]
 rd:=fu
theorem kI:LoopOk prog (fun k=>Nat.blt k Tryz.f8.ntmps) aq.F (fm f8 0):=by
 refine Lp.ok (tbl:= []) (lf:= []) cq aq (by kernel_rfl) (LOk.nil _) (fun _=>rfl) (fun _ _=>rfl) ?_ ?_ ?_ ?_ (fun _=>rfl) ?_
 ·intro _;kernel_rfl
 ·intro _;kernel_rfl
 ·intro s x h
  have h:fu s=some x:=h
  unfold fu at h
  repeat' split at h
  all_goals cases h
  constructor<;>repeat(first|refine ay ‹_› rfl ?_|refine dA rfl ‹_› rfl ?_|rfl)
 ·intro _;kernel_rfl
 ·intro _ _;exact(And.intro (And.intro rfl rfl) trivial)
section
variable (a:yx)(b:Int)
def gF:Int×yx×Int×Int×List yx:=((0:Int),a,b,(0:Int),[])
def cT:List yx:=(Lp.res aq (gF a b)).2.2.2.2.2
def fJ:Bool:=allT [Lp.fin aq (gF a b)]
end
def kq:yy
 | [.one ⟨false,[.val (.string a)]⟩,.one ⟨false,[.val (.int .u8 b)]⟩],[]=>some ⟨yA (.ref 0),[],[yE (cT a b)],[fJ a b]⟩
 |_,_=>none
def kw:PF prog:=PF.ofG prog [] [aq.F] cq 8 f8 func8 (LOk.fnT (l:= [fm f8 0]) (by kernel_rfl) (.cons kI (.nil _))) kq (by
 intro _ _ _ h;unfold kq at h;split at h<;>cases h;kernel_rfl)
def fT:yy
 | [.one ⟨false,[.val (.int .i64 a)]⟩],[]=>some ⟨yA (.clo 65 [0]),[],[.box 2 [yz a]],[]⟩
 |_,_=>none
def jH:PF prog:=PF.ofG prog [] [] cq 36 f36 func36 (fun c _=>LOk.nil c) fT (by
 intro _ _ _ h;unfold fT at h;split at h<;>cases h;kernel_rfl)
def hZ:yy
 | [.one ⟨false,[.val (.int .i64 a)]⟩],[]=>some ⟨yA (.clo 66 [0]),[],[.box 2 [yz a]],[]⟩
 |_,_=>none
def ml:PF prog:=PF.ofG prog [] [] cq 37 f37 func37 (fun c _=>LOk.nil c) hZ (by
 intro _ _ _ h;unfold hZ at h;split at h<;>cases h;kernel_rfl)
def kP:yy
 | [.one ⟨false,[.val (.func a b c)]⟩],[]=>some ⟨yA (.clo 56 [0]),[],[.box 68 [.val (.func a b c)]],[]⟩
 |_,_=>none
def qv:PF prog:=PF.ofG prog [] [] cq 30 f30 func30 (fun c _=>LOk.nil c) kP (by
 intro _ _ _ h;unfold kP at h;split at h<;>cases h;kernel_rfl)
def bJ:List (yx×(Int×Unit)):= [(ByteArray.mk #[102,97,117,108,116],(3:Int),()),(ByteArray.mk #[108,111,99,107,102,97,117,108,116],(3:Int),()),(ByteArray.mk #[116,97,115,107],(2:Int),()),(ByteArray.mk #[100,97,121],(1:Int),()),(ByteArray.mk #[112,101,114,102,111,114,109],(1:Int),()),(ByteArray.mk #[112,97,100,108,111,99,107],(2:Int),()),(ByteArray.mk #[116,97,107,101,111,102,102],(2:Int),()),(ByteArray.mk #[110,101,119],(3:Int),())]
def kO:yy
 | [],[]=>some ⟨yA (.ref 0),[],[.row true 28 yt (bJ)],[]⟩
 |_,_=>none
def qu:PF prog:=PF.ofG prog [qv] [] cq 13 f13 func13 (fun c _=>LOk.nil c) kO (by
 intro _ _ _ h;unfold kO at h;split at h<;>cases h;kernel_rfl)
def cR:List (yx×(Int×Unit)):= [(ByteArray.mk #[109,111,118,101],(1:Int),()),(ByteArray.mk #[99,108,111,115,101],(2:Int),()),(ByteArray.mk #[108,105,102,116],(2:Int),()),(ByteArray.mk #[108,111,99,107],(1:Int),()),(ByteArray.mk #[117,110,108,111,99,107],(1:Int),()),(ByteArray.mk #[99,111,109,109,97,110,100],(3:Int),())]
def mY:yy
 | [],[]=>some ⟨yA (.ref 0),[],[.row true 28 yt (cR)],[]⟩
 |_,_=>none
def sb:PF prog:=PF.ofG prog [jH,ml] [] cq 14 f14 func14 (fun c _=>LOk.nil c) mY (by
 intro _ _ _ h;unfold mY at h;split at h<;>cases h;kernel_rfl)
def bK:List (yx×(Int×Unit)):= [(ByteArray.mk #[115,104,111,119],(0:Int),()),(ByteArray.mk #[109,111,100,101],(0:Int),()),(ByteArray.mk #[115,101,99,117,114,101],(0:Int),()),(ByteArray.mk #[109,111,118,101,115],(0:Int),()),(ByteArray.mk #[114,101,115,116,114,97,105,110,116,115],(1:Int),()),(ByteArray.mk #[99,104,101,99,107],(2:Int),()),(ByteArray.mk #[114,101,112,108,97,121],(2:Int),())]
def kQ:yy
 | [],[]=>some ⟨yA (.ref 0),[],[.row true 28 yt (bK)],[]⟩
 |_,_=>none
def qw:PF prog:=PF.ofG prog [] [] cq 15 f15 func15 (fun c _=>LOk.nil c) kQ (by
 intro _ _ _ h;unfold kQ at h;split at h<;>cases h;kernel_rfl)
def vc:yy
 | [.one ⟨false,[.val (.slice none 0 0)]⟩,.one ⟨false,[.val (.int .i64 n)]⟩],[]=>some ⟨yA (.ref 0),[],[.row true 28 (.pair .str (.pair (.int .i64) .fn)) []],[leI 1 n,leI n 1000]⟩
 |_,_=>none
def tV:PF prog where
 k:=23
 F:=vc
 ok:=by
  intro args es o h ba mem ρ w hp
  unfold vc at h
  split at h
  ·rename_i n
   cases h
   have h1:=je.1 (ba _ (List.mem_cons_self ..))
   have h2:=je.1 (ba _ (List.mem_cons_of_mem _ (zW.2 rfl)))
   obtain⟨k,rfl⟩: ∃ k:Nat,n=k:=⟨n.toNat,by omega⟩
   refine(gr_walk w k (by omega) (by omega)).mono ?_
   rintro e w' ⟨he,hw⟩
   obtain⟨cap,hcap⟩: ∃ cap,cap=grownCap w k 0 28:=⟨_,rfl⟩
   have hge:k≤cap:=hcap ▸ grownCap_ge w k 0 28
   have eP:cap≤maxLen:=hcap ▸ grownCap_le_maxLen w k 0 28 (by show k≤9223372036854775807;omega)
   rw [← hcap]at he hw
   obtain⟨cur,hcur⟩: ∃ cur,cur=Builtin.zeroCells zCmd.cells k++Builtin.zeroCells zCmd.cells (cap - k):=⟨_,rfl⟩
   have hz: ∀ n,(Builtin.zeroCells zCmd.cells n).size=n * 3:=fun n=>by simp [Builtin.zeroCells,Value.cells]
   have eb:cur.size=cap * 3:=by rw [hcur,Array.size_append,hz,hz];omega
   rw [← hcur]at hw
   have hg:w'.heap[w.heap.size]? =some (.cells cur 28 (0,0)):=by rw [hw];show (w.drew.alloc _).heap[w.drew.heap.size]? =_;unfold World.alloc;exact Array.getElem?_push_size ..
   have ux:Chg w w' (fun _=>False):=by
    have:=Chg.alloc w.drew (Obj.cells cur 28)
    rw [hw];exact⟨this.os,this.tape,this.output,this.size,this.block⟩
   obtain⟨v,hv⟩: ∃ v,v=Value.slice (some ⟨w.heap.size,0,none⟩) 0 cap:=⟨_,rfl⟩
   have hsv:eM v=v:=by rw [hv];rfl
   have hbl:az v= [w.heap.size]:=by rw [hv];exact bC (by omega)
   have hfree:(memB w mem).mem w.heap.size=none∧ρ.mem w.heap.size=none:=by
    constructor
    ·cases hm:(memB w mem).mem w.heap.size with
     |none=>rfl
     |some q=>have:=(Array.getElem?_eq_some_iff.1 (hp.hf.mem _ _ hm)).1;omega
    ·cases hm:ρ.mem w.heap.size with
     |none=>rfl
     |some q=>have:=(Array.getElem?_eq_some_iff.1 (hp.hf.dat _ _ hm)).1;omega
   obtain⟨hX,hH⟩:=Hp.chg (es:= [(0,.row true 28 (.pair .str (.pair (.int .i64) .fn)) [])]) (new:= [0]) (ρ':=upd ρ 0 v) hp ux (fun id aR=>by cases aR) (fun _ _ h=>h) (fun k hk=>hk.elim) (fun b q hb=> .inl hb)
    (fun id en pX=>by
     obtain⟨rfl,rfl⟩:=look?_one pX
     refine⟨?_,by simp [ag,memN],trivial⟩
     simp only [Entry.holds]
     rw [ax ρ 0 hsv]
     refine⟨[],⟨by simp,.inr ⟨w.heap.size,cap,cur,hv,by omega,hg,Nat.zero_le _,eP,eb,rfl⟩⟩,aU.nil _ _,fun b hb=> ?_⟩
     rw [hbl]at hb
     rw [zW.1 hb];exact hfree)
    (fun id en b pX hb=>by
     obtain⟨rfl,rfl⟩:=look?_one pX
     simp only [Entry.ob]at hb
     rw [ax ρ 0 hsv,hbl]at hb
     rw [zW.1 hb];exact .inl (Nat.le_refl _))
    (fun id id' en en' b pX hen' _ _=>(look?_one pX).1.trans (look?_one hen').1.symm)
   refine⟨upd ρ 0 v,hX,?_,rfl,by simp [SV.inU,V1.inU,Cell.inU],?_⟩
   ·rw [he,← hv];show _=Ending.returned (upd ρ 0 v 0);rw [ax ρ 0 hsv]
   ·unfold HpL
    refine Hp.less (ent1:=ae (fun i=>([]:List Entry)[i]?) [(0,.row true 28 (.pair .str (.pair (.int .i64) .fn)) [])]) ⟨fun id en pX=> ?_,hH.hi,hH.hf⟩ fun id e2 he2=> ?_
    ·obtain⟨q1,q2,q3⟩:=hH.he id en pX
     have hU: ∀ id,ag (fun i=>Nat.blt i ([]:List Entry).length) [0] id=true→Nat.blt id 1=true:=fun id h=>by
      match id with
      |0=>rfl
      |id + 1=>exact absurd h (by simp [ag,memN,Nat.blt])
     exact⟨q1,hU id q2,Entry.inU_mono (fun i hi=>hU i hi) q3⟩
    ·match id with
     |0=>cases he2;exact⟨_,rfl,(hH.he 0 _ rfl).1,fun _ h=>h,trivial⟩
     |id + 1=>cases he2
  ·cases h
abbrev bf:=Int×Int×Int×List (List (yx×(Int×Unit)))
section
variable (a b c:Int)(d:List (List (yx×(Int×Unit))))
def gx:Int:=zQ .i64 (c + (↑(w8 (w9 d[w7 a]? (de yq))):Int))
def lu:Bool:=ltI a b
def lv:Bool:=leI 0 a
def lw:Bool:=ltI a (↑d.length:Int)
def lx:Bool:=ltN a.toNat d.length
def ly:Bool:= !ltI (gx a c d) 0
def lz:Int:=zQ .i64 (a + (1:Int))
def lA:Int:=gx a c d
end
def kB:bf→List (Nat×SV)
 |(a,b,c,_)=> [(11,(yB a)),(10,(yB b)),(9,(yA (.ref 0))),(3,(yB c))]
def kz:bf→List (Nat×Entry)
 |(_,_,_,a)=> [(0,(.row false 37 yq a))]
def kF:Nat→bf→List (Nat×SV)
 |_,(_,_,a,_)=> [(3,(yB a))]
def kL:bf→LT bf
 |(a,b,c,d)=> .ite (lu a b) (.need [lv a,lw a d,lx a d] (.need [ly a c d] (.nrm ((lz a),b,lA a c d,d) [(0,0)]))) (.ext 0 [(0,0)])
def em(s:St):Option bf:=do
 let some ⟨none,.one ⟨false,[.val (.int .i64 a)]⟩⟩:=s.look 11|none
 let some ⟨none,.one ⟨false,[.val (.int .i64 b)]⟩⟩:=s.look 10|none
 let some ⟨none,.one ⟨false,[.ref 0]⟩⟩:=s.look 9|none
 let some ⟨none,.one ⟨false,[.val (.int .i64 c)]⟩⟩:=s.look 3|none
 let some (.row false 37 (.sl 28 (.pair .str (.pair (.int .i64) CTy.fn))) d):=s.ent 0|none
 some (a,b,c,d)
def cG:Lp bf where
 h:=⟨[12,13,14,5,15,16,17,18,3,19,20,21,22,11],[0],[],[]⟩
 JL:=kB
 JE:=kz
 XL:=kF
 XE:=fun _=>kz
 q:=fun j=>match j with | _=> .exit 0
 tags:= [0]
 lt:=kL
 fuel:=fun(a,b,c,d)=>a.natAbs + b.natAbs + c.natAbs + d.length
 fix:=fun(_,b,_,d) (a,_,c,_)=>(a,b,c,d)
 σ:= [(0,0)]
 rd:=em
theorem jA:LoopOk prog (fun k=>Nat.blt k Tryz.f12.ntmps) cG.F (fm f12 0):=by
 refine Lp.ok (tbl:= [tV]) (lf:= []) cq cG (by kernel_rfl) (LOk.nil _) (fun _=>rfl) (fun _ _=>rfl) ?_ ?_ ?_ ?_ (fun _=>rfl) ?_
 ·intro _;kernel_rfl
 ·intro _;kernel_rfl
 ·intro s x h
  have h:em s=some x:=h
  unfold em at h
  repeat' split at h
  all_goals cases h
  constructor<;>repeat(first|refine ay ‹_› rfl ?_|refine dA rfl ‹_› rfl ?_|rfl)
 ·intro _;kernel_rfl
 ·intro _ _;exact(And.intro rfl trivial)
abbrev bg:=Int×Int×List (List (yx×(Int×Unit)))×List (yx×(Int×Unit))
section
variable (a b:Int)(c:List (List (yx×(Int×Unit))))(d:List (yx×(Int×Unit)))
def lB:Bool:=ltI a b
def lC:Bool:=leI 0 a
def lD:Bool:=ltI a (↑c.length:Int)
def lE:Bool:=ltN a.toNat c.length
def lF:Bool:=leN (w8 d + w8 (w9 c[w7 a]? (de yq))) 9223372036854775807
def lG:Bool:=leN ((w8 d + w8 (w9 c[w7 a]? (de yq))) * 32) 140737488355328
def lH:Int:=zQ .i64 (a + (1:Int))
def lI:List (yx×(Int×Unit)):=d++w9 c[w7 a]? (de yq)
end
def kC:bg→List (Nat×SV)
 |(a,b,_,_)=> [(27,(yB a)),(26,(yB b)),(25,(yA (.ref 0))),(6,(yA (.ref 1)))]
def kA:bg→List (Nat×Entry)
 |(_,_,a,b)=> [(0,(.row false 37 yq a)),(1,(.row true 28 yt b))]
def kG:Nat→bg→List (Nat×SV)
 |_,(_,_,_,_)=> [(6,(yA (.ref 1)))]
def kM:bg→LT bg
 |(a,b,c,d)=> .ite (lB a b) (.need [lC a,lD a c,lE a c] (.need [lF a c d,lG a c d] (.nrm ((lH a),b,c,(lI a c d)) [(0,0),(1,448)]))) (.ext 0 [(0,0),(1,1)])
def eo(s:St):Option bg:=do
 let some ⟨none,.one ⟨false,[.val (.int .i64 a)]⟩⟩:=s.look 27|none
 let some ⟨none,.one ⟨false,[.val (.int .i64 b)]⟩⟩:=s.look 26|none
 let some ⟨none,.one ⟨false,[.ref 0]⟩⟩:=s.look 25|none
 let some ⟨none,.one ⟨false,[.ref 576]⟩⟩:=s.look 6|none
 let some (.row false 37 (.sl 28 (.pair .str (.pair (.int .i64) CTy.fn))) c):=s.ent 0|none
 let some (.row true 28 (.pair .str (.pair (.int .i64) CTy.fn)) d):=s.ent 576|none
 some (a,b,c,d)
def cH:Lp bg where
 h:=⟨[28,29,30,8,31,32,33,6,34,27],[0],[1],[]⟩
 JL:=kC
 JE:=kA
 XL:=kG
 XE:=fun _=>kA
 q:=fun j=>match j with | _=> .exit 2
 tags:= [0]
 lt:=kM
 fuel:=fun(a,b,c,d)=>a.natAbs + b.natAbs + c.length + d.length
 fix:=fun(_,b,c,_) (a,_,_,d)=>(a,b,c,d)
 σ:= [(0,0),(1,576)]
 rd:=eo
theorem jB:LoopOk prog (fun k=>Nat.blt k Tryz.f12.ntmps) cH.F (fm f12 1):=by
 refine Lp.ok (tbl:= [tV]) (lf:= []) cq cH (by kernel_rfl) (LOk.nil _) (fun _=>rfl) (fun _ _=>rfl) ?_ ?_ ?_ ?_ (fun _=>rfl) ?_
 ·intro _;kernel_rfl
 ·intro _;kernel_rfl
 ·intro s x h
  have h:eo s=some x:=h
  unfold eo at h
  repeat' split at h
  all_goals cases h
  constructor<;>repeat(first|refine ay ‹_› rfl ?_|refine dA rfl ‹_› rfl ?_|rfl)
 ·intro _;kernel_rfl
 ·intro _ _;exact(And.intro rfl trivial)
section
variable (a:List (List (yx×Int×Unit)))
def iJ:Int:=((Lp.res cG ((0:Int),(↑a.length:Int),(0:Int),a)).2.2.2).1
def bG:List (yx×(Int×Unit)):=(Lp.res cH ((0:Int),(↑a.length:Int),a,[])).2.2.2.2
def nF:Bool:=allT [Lp.fin cG ((0:Int),(↑a.length:Int),(0:Int),a),leI 1 (iJ a),leI (iJ a) 1000,Lp.fin cH ((0:Int),(↑a.length:Int),a,[])]
end
def iY:yy
 | [.one ⟨false,[.ref 0]⟩],[.row false 37 (.sl 28 (.pair .str (.pair (.int .i64) .fn))) a]=>some ⟨yA (.ref 1),[.row false 37 (CTy.sl (28:TypeId) yt) a],[.row true 28 yt (bG a)],[nF a]⟩
 |_,_=>none
def gm:PF prog:=PF.ofG prog [tV] [cG.F,cH.F] cq 12 f12 func12 (LOk.fnT (l:= [fm f12 0,fm f12 1]) (by kernel_rfl) (.cons jA (.cons jB (.nil _)))) iY (by
 intro _ _ _ h;unfold iY at h;split at h<;>cases h;kernel_rfl)
end Go.SX
namespace Go.SX
open Go.Lib
def spL(c:UInt8):List UInt8→List (List UInt8)
 | []=> [[]]
 |b::r=>match spL c r with
  |h::t=>bif b==c then []::h::t else(b::h)::t
  | []=> []
theorem sd(c:UInt8): ∀ l:List UInt8,∃ h t,spL c l=h::t
 | []=>⟨[],[],rfl⟩
 |b::r=>by
  obtain⟨h,t,e⟩:=sd c r
  simp only [spL,e]
  cases b==c
  ·exact⟨_,_,rfl⟩
  ·exact⟨_,_,rfl⟩
theorem rA(c:UInt8): ∀ l:List UInt8,splitK [c] 0 (count l [c]) l=spL c l
 | []=>by rw [count_miss (by simp [index])];rfl
 |b::l=>by
  obtain⟨h,t,e⟩:=sd c l
  have ih:=rA c l
  by_cases hb:b=c
  ·subst hb
   have hix:index (b::l) [b]=((0:Nat):Int):=by rw [index];simp [List.isPrefixOf]
   rw [count_cons_eq,Nat.add_comm,splitK,hix]
   simp only [spL,e,beq_self_eq_true,cond_true]
   rw [← e,← ih];rfl
  ·have hb':(b==c)=false:=by simpa using hb
   rw [count_cons_ne b c l hb]
   simp only [spL,e,hb',cond_false]
   rw [ih.symm]at e
   have hp:([c]:List UInt8).isPrefixOf (b::l)=false:=by simp [List.isPrefixOf,Ne.symm hb]
   have hix:index (b::l) [c]=if index l [c]== -1 then -1 else index l [c] + 1:=by rw [index,hp];simp
   cases hk:count l [c]with
   |zero=>
    rw [hk,splitK]at e
    obtain⟨rfl,rfl⟩:=List.cons.inj e
    rfl
   |succ k=>
    have hm: ¬ index l [c]= -1:=fun hm=>by rw [count_miss hm]at hk;cases hk
    have hge:=index_ge l [c]
    obtain⟨j,hj⟩: ∃ j:Nat,index l [c]=j:=⟨(index l [c]).toNat,by omega⟩
    have hix':index (b::l) [c]=((j + 1:Nat):Int):=by rw [hix,if_neg (fun e=>hm (beq_iff_eq.1 e)),hj];omega
    have q1: ¬ ((j:Int)== -1)=true:=fun e=>by have:=beq_iff_eq.1 e;omega
    have q2: ¬ (((j + 1:Nat):Int)== -1)=true:=fun e=>by have:=beq_iff_eq.1 e;omega
    rw [hk,splitK,hj,if_neg q1]at e
    obtain⟨e1,e2⟩:=List.cons.inj e
    rw [splitK,hix',if_neg q2,← e1,← e2]
    simp
theorem rz(c:UInt8)(s:yx):(splitB ⟨#[c]⟩ 0 (countB s ⟨#[c]⟩) s).map (·.data.toList)=spL c s.data.toList:=by
 rw [splitB_data,← rA]
def dig(c:UInt8):Bool:=Nat.ble 48 c.toNat&&Nat.ble c.toNat 57
def mV(acc:Nat)(l:List UInt8):Nat:=l.foldl (fun a c=>a * 10 + (c.toNat - 48)) acc
theorem tf(acc:Nat):mV acc []=acc:=by unfold mV;exact List.foldl_nil
theorem oF(acc:Nat)(c:UInt8)(r:List UInt8):mV acc (c::r)=mV (acc * 10 + (c.toNat - 48)) r:=by unfold mV;exact List.foldl_cons ..
theorem ii{c:UInt8}:dig c=true↔48≤c.toNat∧c.toNat≤57:=by simp only [dig,q8,Nat.ble_eq]
theorem si: ∀ (l:List UInt8) (acc:Nat),l.all dig=true→mV acc l < (acc + 1) * 10 ^ l.length
 | [],acc,_=>by rw [tf,List.length_nil,Nat.pow_zero];omega
 |c::r,acc,h=>by
  rw [List.all_cons,q8,ii]at h
  have ih:=si r (acc * 10 + (c.toNat - 48)) h.2
  rw [oF,w3,Nat.pow_succ]
  refine Nat.lt_of_lt_of_le ih ?_
  have:acc * 10 + (c.toNat - 48) + 1≤(acc + 1) * 10:=by omega
  calc _≤(acc + 1) * 10 * 10 ^ r.length:=Nat.mul_le_mul_right _ this
   _=(acc + 1) * (10 ^ r.length * 10):=by rw [Nat.mul_assoc,Nat.mul_comm 10]
theorem rn: ∀ (l:List UInt8) (acc:Nat),l.all dig=true→(acc + 1) * 10 ^ l.length≤1000000000000→parseUintM (2 ^ 64 - 1) acc l= .ok (mV acc l)
 | [],acc,_,_=>rfl
 |c::r,acc,h,hb=>by
  rw [List.all_cons,q8,ii]at h
  rw [w3,Nat.pow_succ]at hb
  have hp:1≤10 ^ r.length:=Nat.one_le_pow _ _ (by omega)
  have hq:(acc + 1) * 10 * 10 ^ r.length≤1000000000000:=by rw [Nat.mul_assoc,Nat.mul_comm 10];exact hb
  have h10:(acc + 1) * 10≤1000000000000:=Nat.le_trans (Nat.le_mul_of_pos_right _ hp) hq
  have hn:(acc * 10 + (c.toNat - 48) + 1) * 10 ^ r.length≤1000000000000:=Nat.le_trans (Nat.mul_le_mul_right _ (by omega)) hq
  rw [parseUintM,if_pos h.1,if_neg (by omega),if_neg (by omega),oF]
  exact rn r _ h.2 hn
theorem ut(u:Nat):(decDigits u).all dig=true:=by
 rw [decDigits]
 split
 ·rename_i h
  rw [List.all_cons,List.all_nil,Bool.and_true,ii,UInt8.toNat_ofNat_of_lt' (by show _ < 256;omega)];omega
 ·rename_i h
  rw [List.all_append,ut (u / 10),Bool.true_and,List.all_cons,List.all_nil,Bool.and_true,ii,UInt8.toNat_ofNat_of_lt' (by show _ < 256;omega)];omega
termination_by u
decreasing_by omega
def rdW(l:List UInt8):Bool:=match parseIntB 64 l with
 | .ok v=>itoa v==l
 |_=>false
def tN:List UInt8→Bool
 |c::_=>c==45
 | []=>false
def nmW(l:List UInt8):Bool:=(Nat.ble 1 l.length&&Nat.ble l.length 12)&&(l.all dig&&decDigits (mV 0 l)==l)
theorem xE(l:List UInt8):(rdW l&&(!tN l&&Nat.ble l.length 12))=nmW l:=by
 cases l with
 |nil=>rfl
 |cons c r=>
  cases hd:(c::r).all dig with
  |true=>
   cases hl:Nat.ble (c::r).length 12 with
   |false=>simp only [nmW,hl,Bool.and_false,Bool.false_and]
   |true=>
    have bj:=Nat.le_of_ble_eq_true hl
    have hc:48≤c.toNat∧c.toNat≤57:=by
     rw [List.all_cons,q8,ii]at hd;exact hd.1
    have hp:10 ^ (c::r).length≤1000000000000:=Nat.pow_le_pow_right (n:=10) (by omega) bj
    have e1:=rn (c::r) 0 hd (by omega)
    have e2:=si (c::r) 0 hd
    have e3:parseIntB 64 (c::r)= .ok (mV 0 (c::r):Int):=by
     have n1: ¬ (c.toNat=43∨c.toNat=45):=by omega
     have n2: ¬ c.toNat=45:=by omega
     simp only [parseIntB,if_neg n1,parseUintB,if_neg (List.cons_ne_nil c r),e1]
     rw [if_neg (by rintro⟨_,h⟩;have:2 ^ (64 - 1)=9223372036854775808:=rfl;omega),if_neg (by rintro⟨h,_⟩;exact n2 h),if_neg n2]
    have h45:tN (c::r)=false:=by
     simp only [tN,beq_eq_false_iff_ne,ne_eq]
     intro e;subst e;exact absurd hc.1 (by decide)
    have h1:Nat.ble 1 (c::r).length=true:=by rw [Nat.ble_eq];simp
    simp only [rdW,e3,itoa_nonneg,nmW,hd,hl,h45,h1,Bool.not_false,Bool.and_self,Bool.and_true,Bool.true_and]
  |false=>
   have:(rdW (c::r)&& !tN (c::r))=false:=by
    cases hr:rdW (c::r)with
    |false=>rfl
    |true=>
     simp only [rdW]at hr
     split at hr
     ·rename_i v hv
      have e:itoa v=c::r:=eq_of_beq hr
      rcases Int.lt_or_le v 0 with hv0 | hv0
      ·obtain⟨u,rfl⟩: ∃ u:Nat,v= -(u:Int):=⟨v.natAbs,by omega⟩
       rw [itoa_neg u (by omega)]at e
       obtain⟨rfl,_⟩:=List.cons.inj e
       rfl
      ·obtain⟨u,rfl⟩: ∃ u:Nat,v=(u:Int):=⟨v.toNat,by omega⟩
       rw [itoa_nonneg]at e
       rw [← e,ut]at hd;cases hd
     ·cases hr
   simp only [nmW,hd,Bool.false_and,Bool.and_false]
   rw [← Bool.and_assoc,this,Bool.false_and]
end Go.SX
namespace Go.SX
open Go.Proofs Go.RowKit
set_option linter.unusedVariables false
set_option linter.unusedSimpArgs false
set_option maxHeartbeats 4000000
set_option maxRecDepth 100000
theorem xt:Tryz.prog.globalNamed "internal/strconv.uint64pow10" =some 9:=by kernel_rfl
theorem wD:(⟨9,256,199,.int .u64,Lib.pow10Tab⟩:GEnt)∈GT:=by
 have e:Lib.pow10Tab=xG:=by decide +kernel
 rw [e]
 exact zW.2 rfl
theorem tv(w:World)(k:Nat)(os:Array Obj):Below w.heap.size w (Sort.grow (w.drewN k) os):=by
 refine⟨rfl,rfl,rfl,?_,fun b hb=> ?_⟩
 ·simp [Sort.grow,World.drewN]
 ·simp [Sort.grow,World.drewN,Array.getElem?_append_left hb]
theorem vC{w w':World}(h:GlOk fun b=>w.heap[b]?)(hB:Below w.heap.size w w'):GlOk fun b=>w'.heap[b]? :=
 GlOk.mono (fun b o hb=>(hB.block b (Array.getElem?_eq_some_iff.1 hb).1).trans hb) h
theorem sB{w:World}(h:GlOk fun b=>w.heap[b]?){g:Nat}(hg:g∈GV): ∃ v,w.cell? ⟨g,0,none⟩=some v∧(v= .nilIface∨ ∃ t p,v= .iface t p):=by
 obtain⟨T,fz,v,h1,h2⟩:=h.2 g hg
 have h1:w.heap[g]? =some (.cells #[v] T fz):=h1
 exact⟨v,by simp [World.cell?,h1],h2⟩
theorem uW{l:List UInt8}{v:Int}(h:Lib.parseIntB 64 l= .ok v): -9223372036854775808≤v∧v≤9223372036854775807:=by
 cases l with
 |nil=>cases h
 |cons c r=>
  simp only [Lib.parseIntB]at h
  have e:2 ^ (64 - 1)=9223372036854775808:=rfl
  split at h
  ·cases h
  ·cases h
  ·rename_i u _
   split at h
   ·cases h
   ·rename_i h1
    split at h
    ·cases h
    ·rename_i h2
     cases h
     by_cases hc:c.toNat=45
     ·rw [if_pos hc]
      have: ¬ 2 ^ (64 - 1) < u:=fun q=>h2 ⟨hc,q⟩
      omega
     ·rw [if_neg hc]
      have: ¬ 2 ^ (64 - 1)≤u:=fun q=>h1 ⟨hc,q⟩
      omega
def rdB(s:yx):Bool:=rdW s.data.toList
theorem vo(n:Int)(h0: -9223372036854775808≤n)(h1:n≤9223372036854775807)(w:World)(hg:GlOk fun b=>w.heap[b]?):
  Calls Tryz.prog 67 #[.int .i64 n] w fun e w'=>e= .returned (.string (fY n))∧Below w.heap.size w w':=by
 have hF:=Tryz.strconv_FormatInt_10 n h0 h1 w (wU hg wD xt)
 go_enter Tryz.func67,Tryz.ntmps67
 go_wp2_with fail
 refine hF.mono ?_
 rintro e W1 ⟨rfl,k,os,hW⟩
 go_wp2_with fail
 go_ret
 exact⟨rfl,hW ▸ tv w k os⟩
theorem vL(s:yx)(w:World)(hs:s.size≤1048576)(hg:GlOk fun b=>w.heap[b]?):
  Calls Tryz.prog 49 #[.string s] w fun e w'=>e= .returned (.tuple #[.int .i64 (rdN s),.bool (rdB s)])∧Below w.heap.size w w':=by
 cases hp:Lib.parseIntB 64 s.data.toList
 case ok v=>
  have hF:=Tryz.strconv_ParseInt_10_at64_ok s (by omega) v hp w
  go_enter Tryz.func49,Tryz.ntmps49
  go_wp2_with fail
  refine hF.mono ?_
  rintro e W1 ⟨rfl,hW⟩
  have hB:Below w.heap.size w W1:=by
   rcases hW with rfl | ⟨t,rfl⟩
   ·exact Below.refl _ _
   ·exact Lib.bytesWorld_below _ _ _
  obtain⟨b0,b1⟩:=uW hp
  go_wp2_with fail
  refine(vo v b0 b1 W1 (vC hg hB)).mono ?_
  rintro e W2 ⟨rfl,hB2⟩
  go_wp2_with fail
  go_ret2
  have e1:rdN s=v:=by unfold rdN;rw [hp]
  have e2:rdB s=((fY v).toList==s.toList):=by unfold rdB rdW;rw [hp,Lib.toList_data,Lib.toList_data];rfl
  refine⟨?_,hB.trans (hB2.mono hB.size)⟩
  rw [e1,e2]
  rfl
 case range=>
  obtain⟨ev,hv,hev⟩:=sB hg (g:=8) (by decide)
  have hF:=Tryz.strconv_ParseInt_10_at64_range s (by omega) hp ev w hv hev
  have e1:rdN s=Lib.intSat 64 s.data.toList:=by unfold rdN;rw [hp]
  generalize Lib.intSat 64 s.data.toList=sat at hF e1
  go_enter Tryz.func49,Tryz.ntmps49
  go_wp2_with fail
  refine hF.mono ?_
  rintro e W1 ⟨N,rfl,h1,h2,h3⟩
  go_wp2_with fail
  go_ret2
  have e2:rdB s=false:=by unfold rdB rdW;rw [hp]
  refine⟨?_,h3⟩
  rw [e1,e2]
  rfl
 ·obtain⟨ev,hv,hev⟩:=sB hg (g:=7) (by decide)
  have hF:Calls Tryz.prog 79 #[.string s,.int .i64 10,.int .i64 64] w fun e w'=> ∃ N,e= .returned (.tuple #[.int .i64 (0),.iface 202 (.pointer (some ⟨N,0,none⟩))])∧w.heap.size≤N∧w'.heap[N]? =some (.cells #[.string ⟨#[80,97,114,115,101,73,110,116]⟩,.string s,ev] 250 (0,0))∧Below w.heap.size w w':=
   Any.strconv_ParseInt_10_at64_syntax Tryz.laysC174 s (by omega) hp ev w hv hev
  go_enter Tryz.func49,Tryz.ntmps49
  go_wp2_with fail
  refine hF.mono ?_
  rintro e W1 ⟨N,rfl,h1,h2,h3⟩
  go_wp2_with fail
  go_ret2
  have e1:rdN s=0:=by unfold rdN;rw [hp]
  have e2:rdB s=false:=by unfold rdB rdW;rw [hp]
  refine⟨?_,h3⟩
  rw [e1,e2]
  rfl
abbrev wI:PF Tryz.prog:=PF.num 49 rdB vL
theorem ui(s:yx)(c:UInt8)(w:World)(hs:s.size≤4294967280):
  Calls Tryz.prog 11 #[.string s,.string ⟨#[c]⟩] w fun e w'=>e= .returned (.slice (some ⟨w.heap.size,0,none⟩) (hO c s).length (hO c s).length)∧w'=w.alloc (.cells ((hO c s).map Value.string).toArray 9):=by
 have eP:=Lib.countB_le ⟨#[c]⟩ (Nat.le_refl 1) s.size s (Nat.le_refl _)
 have bj:=Lib.splitB_all ⟨#[c]⟩ (Nat.le_refl 1) 0 _ s rfl
 have c0:=Any.strings_genSplit_core { Tryz.lays146 with } (by kernel_rfl) s ⟨#[c]⟩ 0 (-1) (Lib.countB s ⟨#[c]⟩ + 1) w (by omega) (Nat.le_refl 1) (Nat.zero_le _)
  (fun x cs _=>(Any.strings_Index_one { Tryz.lays146 with } x c _).mono fun e w' ⟨he,hw⟩=>⟨by rw [he];show _=Ending.returned (Value.int .i64 (Lib.index x.data.toList [c]));rw [Lib.index_one],hw⟩)
  ((Any.strings_Count_one { Tryz.lays146 with } s c w).mono fun e w' ⟨he,hw⟩=>⟨by rw [he];show _=Ending.returned (Value.int .i64 ((Lib.count s.data.toList [c]:Nat):Int));rw [Lib.count_one];rfl,hw⟩)
  (by decide) (by decide) (by rw [if_pos (by decide)];omega)
 rw [Nat.add_sub_cancel,bj]at c0
 have e2:Lib.cellsOf (Lib.splitB ⟨#[c]⟩ 0 (Lib.countB s ⟨#[c]⟩) s) (Lib.countB s ⟨#[c]⟩ + 1)=((hO c s).map Value.string).toArray:=by rw [← bj];exact Lib.cellsOf_full _
 rw [e2]at c0
 have e3:(hO c s).length=Lib.countB s ⟨#[c]⟩ + 1:=bj
 rw [e3]
 go_enter Tryz.func11,Tryz.ntmps11
 go_wp2_with fail
 refine c0.mono ?_
 rintro e w' ⟨rfl,hw⟩
 rw [hw]
 go_wp2_with fail
 go_ret
 exact⟨rfl,rfl⟩
abbrev wo:PF Tryz.prog:=PF.split 11 9 ui
end Go.SX
namespace Go.SX
open Go.Proofs Go.Proofs.Tryz
set_option maxRecDepth 100000
def aC(a:yx):Bool:=bif(↑(UInt8.toNat (w9 a[w7 0]? (0:UInt8))):Int)==45 then true else ltI 12 (↑(ByteArray.size a):Int)
def dh(a:yx):Bool:=allT [ltI 0 (↑(ByteArray.size a):Int)]
def ir:yy
 | [.one ⟨false,[.val (.string a)]⟩],[]=>some ⟨yA (.val (.bool (aC a))),[],[],[dh a]⟩
 |_,_=>none
def iH:PF prog:=PF.ofG prog [] [] cq 20 f20 func20 (fun c _=>LOk.nil c) ir (by
 intro _ _ _ h;unfold ir at h;split at h<;>cases h;kernel_rfl)
abbrev ah:=Int×Int×List yx
section
variable (a b:Int)(c:List yx)
def ar:yx:=w9 c[w7 a]? ByteArray.empty
def aH:Bool:=ltI a b
def aI:Bool:=leI 0 a
def aJ:Bool:=ltI a (↑c.length:Int)
def aK:Bool:=ltN a.toNat c.length
def aL:Bool:=dh (ar a c)
def aM:Bool:=aC (ar a c)
def aN:Int:=zQ .i64 (a + (1:Int))
end
def fg:ah→List (Nat×SV)
 |(a,b,_)=> [(8,(yB a)),(7,(yB b)),(1,(yA (.val (.func (.func 20) ⟨[]⟩ ⟨[]⟩)))),(0,(yA (.ref 0)))]
def ff:ah→List (Nat×Entry)
 |(_,_,a)=> [(0,(yD a))]
def fj:Nat→ah→List (Nat×SV)
 |0,(a,_,_)=> [(4,(yB a))]
 |_,_=>[]
def aE:ah→LT ah
 |(a,b,c)=> .ite (aH a b) (.need [aI a,aJ a c,aK a c,aL a c] (.ite (aM a c) (.ext 0 [(0,0)]) (.nrm ((aN a),b,c) [(0,0)]))) (.ext 1 [(0,0)])
def bE(s:St):Option ah:=do
 let some ⟨none,.one ⟨false,[.val (.int .i64 a)]⟩⟩:=s.look 8|none
 let some ⟨none,.one ⟨false,[.val (.int .i64 b)]⟩⟩:=s.look 7|none
 let some ⟨none,.one ⟨false,[.val (.func (.func 20) ⟨[]⟩ ⟨[]⟩)]⟩⟩:=s.look 1|none
 let some ⟨none,.one ⟨false,[.ref 0]⟩⟩:=s.look 0|none
 let some (.row false 9 (.str) c):=s.ent 0|none
 some (a,b,c)
def ab:Lp ah where
 h:=⟨[9,10,5,11,12,13,14,15,16,17,4,18,8],[0],[],[]⟩
 JL:=fg
 JE:=ff
 XL:=fj
 XE:=fun _=>ff
 q:=fun j=>match j with | 0=> .ret | _=> .exit 0
 tags:= [0,1]
 lt:=aE
 fuel:=fun(a,b,c)=>a.natAbs + b.natAbs + c.length
 fix:=fun(_,b,c) (a,_,_)=>(a,b,c)
 σ:= [(0,0)]
 rd:=bE
theorem eJ:LoopOk prog (fun k=>Nat.blt k Tryz.f50.ntmps) ab.F (fm f50 0):=by
 refine Lp.ok (tbl:= [iH]) (lf:= []) cq ab (by kernel_rfl) (LOk.nil _) (fun _=>rfl) (fun j _=>by unfold ab;match j with | 0=>rfl | _ + 1=>rfl) ?_ ?_ ?_ ?_ (fun _=>rfl) ?_
 ·intro _;kernel_rfl
 ·intro _;kernel_rfl
 ·intro s x h
  have h:bE s=some x:=h
  unfold bE at h
  repeat' split at h
  all_goals cases h
  constructor<;>repeat(first|refine ay ‹_› rfl ?_|refine dA rfl ‹_› rfl ?_|rfl)
 ·intro _;kernel_rfl
 ·intro _ _;exact(And.intro (And.intro trivial rfl) trivial)
section
variable (a:List yx)
def aT:Int×Int×List yx:=((0:Int),(↑a.length:Int),a)
def ck:Int:=bif Nat.beq ((Lp.res ab (aT a)).1) 0 then ((Lp.res ab (aT a)).2).1else(-1:Int)
def cm:Bool:=allT [Lp.fin ab (aT a)]
end
def dB:yy
 | [.one ⟨false,[.ref 0]⟩,.one ⟨false,[.val (.func (.func 20) ⟨[]⟩ ⟨[]⟩)]⟩],[.row false 9 (.str) a]=>some ⟨yB (ck a),[yD a],[],[cm a]⟩
 |_,_=>none
def gn:PF prog:=PF.ofG prog [iH] [ab.F] cq 50 f50 func50 (LOk.fnT (l:= [fm f50 0]) (by kernel_rfl) (.cons eJ (.nil _))) dB (by
 intro _ _ _ h;unfold dB at h;split at h<;>cases h;kernel_rfl)
def af(a:List yx):Bool:=leI 0 (ck a)
def aG(a:List yx):Bool:=allT [cm a]
def db:yy
 | [.one ⟨false,[.ref 0]⟩,.one ⟨false,[.val (.func (.func 20) ⟨[]⟩ ⟨[]⟩)]⟩],[.row false 9 (.str) a]=>some ⟨yA (.val (.bool (af a))),[yD a],[],[aG a]⟩
 |_,_=>none
def fD:PF prog:=PF.ofG prog [gn] [] cq 19 f19 func19 (fun c _=>LOk.nil c) db (by
 intro _ _ _ h;unfold db at h;split at h<;>cases h;kernel_rfl)
abbrev aB:=Int×Int×List yx×List Int
section
variable (a b:Int)(c:List yx)(d:yw)
def aF:yx:=w9 c[w7 a]? ByteArray.empty
def cu:Bool:=ltI a b
def cv:Bool:=leI 0 a
def cw:Bool:=ltI a (↑c.length:Int)
def cz:Bool:=ltN a.toNat c.length
def cA:Bool:=leN (ByteArray.size (aF a c)) 1048576
def cB:Bool:= !rdB (aF a c)
def cC:Bool:=leN (w8 d + w8 [rdN (aF a c)]) 9223372036854775807
def cD:Bool:=leN ((w8 d + w8 [rdN (aF a c)]) * 8) 140737488355328
def cE:Int:=zQ .i64 (a + (1:Int))
def cF:yw:=d++ [rdN (aF a c)]
end
def jO:aB→List (Nat×SV)
 |(a,b,_,_)=> [(11,(yB a)),(10,(yB b)),(9,(yA (.ref 0))),(4,(yA (.ref 1)))]
def jN:aB→List (Nat×Entry)
 |(_,_,a,b)=> [(0,(yD a)),(1,(yC b))]
def jQ:Nat→aB→List (Nat×SV)
 |0,(_,_,_,_)=> [(2,(yA (.ref 2))),(3,(yA (.val (.bool false))))]
 |_,(_,_,_,_)=> [(4,(yA (.ref 1)))]
def jP:Nat→aB→List (Nat×Entry)
 |0,(_,_,a,b)=> [(0,(yD a)),(1,(yC b)),(2,(yC []))]
 |_,(_,_,a,b)=> [(0,(yD a)),(1,(yC b))]
def cg:aB→LT aB
 |(a,b,c,d)=> .ite (cu a b) (.need [cv a,cw a c,cz a c] (.need [cA a c] (.ite (cB a c) (.ext 0 [(0,0),(1,1),(2,896)]) (.need [cC a c d,cD a c d] (.nrm ((cE a),b,c,(cF a c d)) [(0,0),(1,1088)]))))) (.ext 1 [(0,0),(1,1)])
def dX(s:St):Option aB:=do
 let some ⟨none,.one ⟨false,[.val (.int .i64 a)]⟩⟩:=s.look 11|none
 let some ⟨none,.one ⟨false,[.val (.int .i64 b)]⟩⟩:=s.look 10|none
 let some ⟨none,.one ⟨false,[.ref 0]⟩⟩:=s.look 9|none
 let some ⟨none,.one ⟨false,[.ref 256]⟩⟩:=s.look 4|none
 let some (.row false 9 (.str) c):=s.ent 0|none
 let some (.row true 2 (.int .i64) d):=s.ent 256|none
 some (a,b,c,d)
def aj:Lp aB where
 h:=⟨[12,13,14,6,16,17,15,18,19,7,8,20,21,2,3,22,23,24,25,4,26,11],[0],[1],[2]⟩
 JL:=jO
 JE:=jN
 XL:=jQ
 XE:=jP
 q:=fun j=>match j with | 0=> .ret | _=> .exit 0
 tags:= [0,1]
 lt:=cg
 fuel:=fun(a,b,c,d)=>a.natAbs + b.natAbs + c.length + d.length
 fix:=fun(_,b,c,_) (a,_,_,d)=>(a,b,c,d)
 σ:= [(0,0),(1,256)]
 rd:=dX
theorem jr:LoopOk prog (fun k=>Nat.blt k Tryz.f18.ntmps) aj.F (fm f18 0):=by
 refine Lp.ok (tbl:= [wI]) (lf:= []) cq aj (by kernel_rfl) (LOk.nil _) (fun _=>rfl) (fun j _=>by unfold aj;match j with | 0=>rfl | _ + 1=>rfl) ?_ ?_ ?_ ?_ (fun _=>rfl) ?_
 ·intro _;kernel_rfl
 ·intro _;kernel_rfl
 ·intro s x h
  have h:dX s=some x:=h
  unfold dX at h
  repeat' split at h
  all_goals cases h
  constructor<;>repeat(first|refine ay ‹_› rfl ?_|refine dA rfl ‹_› rfl ?_|rfl)
 ·intro _;kernel_rfl
 ·intro _ _;exact(And.intro (And.intro trivial rfl) trivial)
section
variable (a:List yx)
def cn:Int×Int×List yx×yw:=((0:Int),(↑a.length:Int),a,[])
def dI:Bool:=Nat.beq ((Lp.res aj (cn a)).1) 0
def am:Bool:=bif dI a then false else true
def iA:yw:=bif dI a then []else (Lp.res aj (cn a)).2.2.2.2
def dV:Bool:=allT [Lp.fin aj (cn a)]
end
def is:yy
 | [.one ⟨false,[.ref 0]⟩],[.row false 9 (.str) a]=>some ⟨.tup [⟨false,[.ref 1]⟩,⟨false,[.val (.bool (am a))]⟩],[yD a],[yC (iA a)],[dV a]⟩
 |_,_=>none
def fO:PF prog:=PF.ofG prog [wI] [aj.F] cq 18 f18 func18 (LOk.fnT (l:= [fm f18 0]) (by kernel_rfl) (.cons jr (.nil _))) is (by
 intro _ _ _ h;unfold is at h;split at h<;>cases h;kernel_rfl)
def fN(a:yx)(b:List yx):Bool:=ByteArray.toList a==ByteArray.toList (w9 b[w7 0]? ByteArray.empty)
def dg(a:List yx):Bool:=allT [ltI 0 (↑a.length:Int),ltN (w7 0) a.length]
def iq:yy
 | [.one ⟨true,[.val (.string a),.val (.int .i64 _x1),.ref 0]⟩,.one ⟨false,[.ptr 1 0]⟩],[.gone,.box 31 [.ref 2],.row false 9 (.str) b]=>some ⟨yA (.val (.bool (fN a b))),[.gone,.box 31 [.ref 2],yD b],[],[dg b]⟩
 |_,_=>none
def iG:PF prog:=PF.ofG prog [] [] cq 17 f17 func17 (fun c _=>LOk.nil c) iq (by
 intro _ _ _ h;unfold iq at h;split at h<;>cases h;kernel_rfl)
abbrev au:=Int×Int×List (yx×(Int×Unit))×List yx
section
variable (a b:Int)(c:List (yx×(Int×Unit)))(d:List yx)
def bR:Bool:=ltI a b
def bS:Bool:=leI 0 a
def bT:Bool:=ltI a (↑c.length:Int)
def bU:Bool:=ltN a.toNat c.length
def bV:Bool:=dg d
def bW:Bool:=fN ((w9 c[w7 a]? (ByteArray.empty,(0:Int),())).1) d
def bX:Int:=zQ .i64 (a + (1:Int))
end
def jl:au→List (Nat×SV)
 |(a,b,_,_)=> [(8,(yB a)),(7,(yB b)),(1,(yA (.clo 17 [0]))),(0,(yA (.ref 1)))]
def jk:au→List (Nat×Entry)
 |(_,_,a,b)=> [(0,(.box 31 [.ref 2])),(1,(.row false 28 yt a)),(2,(yD b))]
def jn:Nat→au→List (Nat×SV)
 |0,(a,_,_,_)=> [(4,(yB a))]
 |_,_=>[]
def bL:au→LT au
 |(a,b,c,d)=> .ite (bR a b) (.need [bS a,bT a c,bU a c,bV d] (.ite (bW a c d) (.ext 0 [(0,0),(1,1),(2,2)]) (.nrm ((bX a),b,c,d) [(0,0),(1,1),(2,2)]))) (.ext 1 [(0,0),(1,1),(2,2)])
def dG(s:St):Option au:=do
 let some ⟨none,.one ⟨false,[.val (.int .i64 a)]⟩⟩:=s.look 8|none
 let some ⟨none,.one ⟨false,[.val (.int .i64 b)]⟩⟩:=s.look 7|none
 let some ⟨none,.one ⟨false,[.clo 17 [1]]⟩⟩:=s.look 1|none
 let some ⟨none,.one ⟨false,[.ref 0]⟩⟩:=s.look 0|none
 let some (.box 31 [.ref 2]):=s.ent 1|none
 let some (.row false 28 (.pair .str (.pair (.int .i64) CTy.fn)) c):=s.ent 0|none
 let some (.row false 9 (.str) d):=s.ent 2|none
 some (a,b,c,d)
def ai:Lp au where
 h:=⟨[9,10,5,11,12,13,14,15,16,17,4,18,8],[0,1,2],[],[]⟩
 JL:=jl
 JE:=jk
 XL:=jn
 XE:=fun _=>jk
 q:=fun j=>match j with | 0=> .ret | _=> .exit 0
 tags:= [0,1]
 lt:=bL
 fuel:=fun(a,b,c,d)=>a.natAbs + b.natAbs + c.length + d.length
 fix:=fun(_,b,c,d) (a,_,_,_)=>(a,b,c,d)
 σ:= [(0,1),(1,0),(2,2)]
 rd:=dG
theorem iD:LoopOk prog (fun k=>Nat.blt k Tryz.f16.ntmps) ai.F (fm f16 0):=by
 refine Lp.ok (tbl:= [iG]) (lf:= []) cq ai (by kernel_rfl) (LOk.nil _) (fun _=>rfl) (fun j _=>by unfold ai;match j with | 0=>rfl | _ + 1=>rfl) ?_ ?_ ?_ ?_ (fun _=>rfl) ?_
 ·intro _;kernel_rfl
 ·intro _;kernel_rfl
 ·intro s x h
  have h:dG s=some x:=h
  unfold dG at h
  repeat' split at h
  all_goals cases h
  constructor<;>repeat(first|refine ay ‹_› rfl ?_|refine dA rfl ‹_› rfl ?_|rfl)
 ·intro _;kernel_rfl
 ·intro _ _;exact(And.intro (And.intro trivial rfl) trivial)
def bz(a:List (yx×Int×Unit))(b:List yx):Int:=bif Nat.beq ((Lp.res ai ((0:Int),(↑a.length:Int),a,b)).1) 0 then ((Lp.res ai ((0:Int),(↑a.length:Int),a,b)).2).1else(-1:Int)
def dE(a:List (yx×Int×Unit))(b:List yx):Bool:=allT [Lp.fin ai ((0:Int),(↑a.length:Int),a,b)]
def gQ:yy
 | [.one ⟨false,[.ref 0]⟩,.one ⟨false,[.clo 17 [1]]⟩],[.row false 28 (.pair .str (.pair (.int .i64) .fn)) a,.box 31 [.ref 2],.row false 9 (.str) b]=>some ⟨yB (bz a b),[.row false 28 yt a,.box 31 [.ref 2],yD b],[],[dE a b]⟩
 |_,_=>none
def eL:PF prog:=PF.ofG prog [iG] [ai.F] cq 16 f16 func16 (LOk.fnT (l:= [fm f16 0]) (by kernel_rfl) (.cons iD (.nil _))) gQ (by
 intro _ _ _ h;unfold gQ at h;split at h<;>cases h;kernel_rfl)
section
variable (a:yx)
def aP:Int:=bz (bG [bJ,cR,bK]) (hO (32:UInt8) a)
def ep:Int:=((w9 (bG [bJ,cR,bK])[w7 (aP a)]? (ByteArray.empty,(0:Int),())).2).1
def al:Bool:=bif ltI (aP a) 0 then true else zQ .i64 ((↑(w8 (hO (32:UInt8) a)):Int) - (1:Int))!=ep a
def ao:List yx:=List.drop (w7 1) (List.take (w7 (↑(w8 (hO (32:UInt8) a)):Int)) (hO (32:UInt8) a))
def aW:List yx:=bif !!am (ao a)&&true then ao a else []
def eq:Bool:=ltI (aP a) (↑(w8 (bG [bJ,cR,bK])):Int)
def er:Bool:=ltN (w7 (aP a)) (w8 (bG [bJ,cR,bK]))
def et:Bool:=leI 1 (↑(w8 (hO (32:UInt8) a)):Int)
def eu:Bool:=leI (↑(w8 (hO (32:UInt8) a)):Int) (↑(w8 (hO (32:UInt8) a)):Int)
def oc:yx:=bif al a then ByteArray.mk #[]else bif bif !am (ao a)then true else af (aW a)then ByteArray.mk #[]else (w9 (bG [bJ,cR,bK])[w7 (aP a)]? (ByteArray.empty,(0:Int),())).1
def od:Int:=bif al a then(0:Int)else bif bif !am (ao a)then true else af (aW a)then(0:Int)else ep a
def dO:Bool:=bif al a then false else bif bif !am (ao a)then true else af (aW a)then false else true
def oe:yw:=bif al a then []else bif bif !am (ao a)then true else af (aW a)then []else iA (ao a)
def dP:Bool:=allT [leN (ByteArray.size a) 4294967280,leN (w8 (hO (32:UInt8) a)) maxLen,dE (bG [bJ,cR,bK]) (hO (32:UInt8) a),!(!ltI (aP a) 0&&true)||leI 0 (aP a),!(!ltI (aP a) 0&&true)||eq a,!(!ltI (aP a) 0&&true)||er a,al a||leI 0 1,al a||et a,al a||eu a,al a||dV (ao a),al a||(!(!!am (ao a)&&true)||leI 0 1),al a||(!(!!am (ao a)&&true)||et a),al a||(!(!!am (ao a)&&true)||eu a),al a||(!(!!am (ao a)&&true)||aG (aW a)),al a||((bif !am (ao a)then true else af (aW a))||leI 0 (aP a)),al a||((bif !am (ao a)then true else af (aW a))||eq a),al a||((bif !am (ao a)then true else af (aW a))||er a)]
end
def ju:yy
 | [.one ⟨false,[.val (.string a)]⟩],[]=>some ⟨.tup [⟨true,[.val (.string (oc a)),yz (od a),.ref 0]⟩,⟨false,[.ref 1]⟩,⟨false,[.val (.bool (dO a))]⟩],[],[.gone,yC (oe a)],[dP a]⟩
 |_,_=>none
def ou:PF prog:=PF.ofG prog (T3z [wo,qu,sb,qw,gm,eL,fO,fD]) [] cq 7 f7 func7 (fun c _=>LOk.nil c) ju (by
 intro _ _ _ h;unfold ju at h;split at h<;>cases h;kernel_rfl)
def dM(a:yx):Bool:=dO a
def dN(a:yx):Bool:=allT [dP a]
def fS:yy
 | [.one ⟨false,[.val (.string a)]⟩],[]=>some ⟨yA (.val (.bool (dM a))),[],[],[dN a]⟩
 |_,_=>none
def jG:PF prog:=PF.ofG prog [ou] [] cq 5 f5 func5 (fun c _=>LOk.nil c) fS (by
 intro _ _ _ h;unfold fS at h;split at h<;>cases h;kernel_rfl)
def sm(m:Int):yy
 | [.one ⟨false,[.val (.int .i64 x)]⟩],[]=>some ⟨yA (.val (.string (fY x))),[],[],[leI 0 x&&ltI x m]⟩
 |_,_=>none
def qU(m:Int):Prop:=
 ∀ args es o,sm m args es=some o→(∀ b∈o.nd,b=true)→ ∀ (mem:Nat→Option Obj) (ρ:Nm) (w:World),HpL w mem es ρ w→
  Calls prog 21 (args.map (SV.conc ρ)).toArray w fun e w'=> ∃ ρ':Nm,Ext (memB w mem) (fun i=>Nat.blt i es.length) ρ ρ'∧e= .returned (o.res.conc ρ')∧o.es.length=es.length∧
   o.res.inU (fun i=>Nat.blt i (o.es++o.new).length)∧HpL w mem (o.es++o.new) ρ' w'
def PF.dec(m:Int)(hk:qU m):PF prog where
 k:=21
 F:=sm m
 ok:=hk
section
variable (a:Int)
def fH:yx:=strOfNums [zQ IntKind.u8 (zQ .i64 ((48:Int) + Int.tmod a 10))]
def fI:Bool:=ltI a 10||neI 10 0
def gq:yx:=bif ltI a 10 then strOfNums [zQ IntKind.u8 (zQ .i64 ((48:Int) + a))]else fY (zQ .i64 (Int.tdiv a 10))++fH a
end
def gr(m0 a:Int):Bool:=allT [fI a,ltI a 10||leI 0 (zQ .i64 (Int.tdiv a 10))&&ltI (zQ .i64 (Int.tdiv a 10)) m0,fI a,ltI a 10||leN (ByteArray.size (fY (zQ .i64 (Int.tdiv a 10))) + ByteArray.size (fH a)) 9223372036854775807]
def kR(m0:Int):yy
 | [.one ⟨false,[.val (.int .i64 a)]⟩],[]=>some ⟨yA (.val (.string (gq a))),[],[],[gr m0 a]⟩
 |_,_=>none
def qx(m0:Int)(hk0:qU m0):PF prog:=PF.ofG prog [PF.dec m0 hk0] [] cq 21 f21 func21 (fun c _=>LOk.nil c) (kR m0) (by
 intro _ _ _ h;unfold kR at h;split at h<;>cases h;kernel_rfl)
theorem qG{x:Int}(h:0≤x)(h1:x < 256):IntKind.u8.wrap x=x:=by
 have e:IntKind.u8.wrap x=x % 256:=rfl
 rw [e];omega
theorem pY{x:Int}(h:0≤x):fY x=⟨(Lib.decDigits x.toNat).toArray⟩:=by
 obtain⟨u,rfl⟩: ∃ u:Nat,x=u:=⟨x.toNat,by omega⟩
 simp only [fY,Lib.itoa_nonneg,q9]
theorem sJ{x:Int}(h:0≤x)(h1:x < 10):fY x=strOfNums [x + 48]:=by
 rw [pY h,Lib.decDigits_one (by omega)]
 have e:(x + 48).toNat=48 + x.toNat:=by omega
 simp only [strOfNums,List.map_cons,List.map_nil,e]
theorem uR{x:Int}(h:0≤x)(h1: ¬ x < 10):fY x=fY (x / 10)++strOfNums [x % 10 + 48]:=by
 rw [pY h,pY (show 0≤x / 10 by omega),Lib.decDigits,dif_neg (by omega)]
 have e1:(x / 10).toNat=x.toNat / 10:=by omega
 have e2:(x % 10 + 48).toNat=48 + x.toNat % 10:=by omega
 apply ByteArray.ext
 apply Array.ext'
 simp [strOfNums,e1,e2,ByteArray.data_append]
theorem tR{x:Int}(h:0≤x)(h1:x≤9223372036854775807):(fY x).size≤21:=by
 have:=Lib.itoa_length_le x (by omega) h1
 simpa [fY,ByteArray.size] using this
theorem wd{m m' x:Int}(hx:0≤x)(h9:x≤9223372036854775807)(hm:x < 10∨x / 10 < m):gr m x=true∧gq x=fY x:=by
 have e:Int.tdiv x 10=x / 10:=Int.tdiv_eq_ediv_of_nonneg hx
 have e':Int.tmod x 10=x % 10:=Int.tmod_eq_emod_of_nonneg hx
 have hw:IntKind.i64.wrap (Int.tdiv x 10)=x / 10:=by rw [e];exact eN (by omega) (by omega)
 have h2:neI 10 0=true:=rfl
 have h3:fH x=strOfNums [x % 10 + 48]:=by
  have w1:IntKind.i64.wrap (48 + x % 10)=x % 10 + 48:=by rw [eN (by omega) (by omega)];omega
  have w2:IntKind.u8.wrap (x % 10 + 48)=x % 10 + 48:=qG (by omega) (by omega)
  simp only [fH,e',w1,w2]
 have hs:=tR (x:=x / 10) (by omega) (by omega)
 have hl:leN ((fY (x / 10)).size + (strOfNums [x % 10 + 48]).size) 9223372036854775807=true:=by
  rw [strOfNums_size]
  exact qb (by simp;omega)
 cases hc:ltI x 10 with
 |true=>
  have hc':=pw.1 hc
  have w1:IntKind.i64.wrap (48 + x)=x + 48:=by rw [eN (by omega) (by omega)];omega
  have w2:IntKind.u8.wrap (x + 48)=x + 48:=qG (by omega) (by omega)
  refine⟨by simp [gr,fI,hc,h2,allT],?_⟩
  simp only [gq,hc,cond_true,w1,w2,sJ hx hc']
 |false=>
  have hc':=lP.1 hc
  have q1:leI 0 (x / 10)=true:=jf (by omega)
  have q2:ltI (x / 10) m=true:=gU (by omega)
  refine⟨by simp only [gr,fI,hc,h2,h3,hw,hl,q1,q2,allT,w4,Bool.and_self,Bool.false_or];rfl,?_⟩
  simp only [gq,hc,cond_false,hw,h3]
  exact(uR hx (by omega)).symm
theorem ea{m m':Int}(hk:qU m)(h:m'≤10∨m'≤10 * m)(hm:m'≤1000000000000):qU m':=by
 refine(PF.alt (qx m hk) (sm m') ?_).ok
 intro args es o h ba
 unfold sm at h
 split at h
 ·rename_i x0
  cases h
  have h1:=ba _ (List.mem_cons_self ..)
  simp only [q8,je,pw]at h1
  obtain⟨h2,h3⟩:=wd (m:=m) (m':=m') h1.1 (by omega) (by omega)
  exact xk rfl (wY h2) (by simp only [h3] <;> rfl) rfl rfl
 ·cases h
theorem vp:qU 0:=by
 intro args es o h ba
 unfold sm at h
 split at h
 ·cases h
  have h1:=ba _ (List.mem_cons_self ..)
  simp only [q8,je,pw]at h1
  omega
 ·cases h
theorem xo:qU 1000000000000:=ea (m:=100000000000) (m':=1000000000000) (ea (m:=10000000000) (m':=100000000000) (ea (m:=1000000000) (m':=10000000000) (ea (m:=100000000) (m':=1000000000) (ea (m:=10000000) (m':=100000000) (ea (m:=1000000) (m':=10000000) (ea (m:=100000) (m':=1000000) (ea (m:=10000) (m':=100000) (ea (m:=1000) (m':=10000) (ea (m:=100) (m':=1000) (ea (m:=10) (m':=100) (ea (m:=0) (m':=10) vp (.inl (by decide)) (by decide)) (.inr (by decide)) (by decide)) (.inr (by decide)) (by decide)) (.inr (by decide)) (by decide)) (.inr (by decide)) (by decide)) (.inr (by decide)) (by decide)) (.inr (by decide)) (by decide)) (.inr (by decide)) (by decide)) (.inr (by decide)) (by decide)) (.inr (by decide)) (by decide)) (.inr (by decide)) (by decide)) (.inr (by decide)) (by decide)
def mw:PF prog:=PF.dec 1000000000000 xo
abbrev bt:=Int×yx×Int
section
variable (a:Int)(b:yx)(c:Int)
def co:Int:=(↑(UInt8.toNat (w9 b[w7 a]? (0:UInt8))):Int)
def ib:Bool:= !(!ltI (co a b) 48&&true)
def dj:Bool:=ltI a (↑(ByteArray.size b):Int)
def fR:Bool:=leI 0 a
def iR:Bool:=ib a b||leI 0 a
def iS:Bool:=ib a b||ltI a (↑(ByteArray.size b):Int)
def iT:Bool:=bif ltI (co a b) 48 then true else ltI 57 (co a b)
def iU:Int:=zQ .i64 (a + (1:Int))
def dZ:Int:=zQ .i64 (zQ .i64 ((10:Int) * c) + zQ .i64 (zQ IntKind.u8 (co a b - (48:Int))))
end
def ma:bt→List (Nat×SV)
 |(a,b,c)=> [(5,(yB a)),(0,(yA (.val (.string b)))),(4,(yB c))]
def lX:bt→List (Nat×Entry)
 |(_,_,_)=> []
def mg:Nat→bt→List (Nat×SV)
 |0,(_,_,_)=> [(2,(yB 0)),(3,(yA (.val (.bool false))))]
 |_,(_,_,a)=> [(4,(yB a))]
def fq:bt→LT bt
 |(a,b,c)=> .ite (dj a b) (.need [fR a,dj a b,iR a b,iS a b] (.ite (iT a b) (.ext 0 []) (.need [fR a,dj a b] (.nrm ((iU a),b,(dZ a b c)) [])))) (.ext 1 [])
def fv(s:St):Option bt:=do
 let some ⟨none,.one ⟨false,[.val (.int .i64 a)]⟩⟩:=s.look 5|none
 let some ⟨none,.one ⟨false,[.val (.string b)]⟩⟩:=s.look 0|none
 let some ⟨none,.one ⟨false,[.val (.int .i64 c)]⟩⟩:=s.look 4|none
 some (a,b,c)
def ap:Lp bt where
 h:=⟨[14,15,16,17,20,21,22,23,24,25,26,27,28,29,2,3,30,31,32,33,34,35,36,37,4,18,19,5],[],[],[]⟩
 JL:=ma
 JE:=lX
 XL:=mg
 XE:=fun _=>lX
 q:=fun j=>match j with | 0=> .ret | _=> .exit 0
 tags:= [0,1]
 lt:=fq
 fuel:=fun(a,b,c)=>a.natAbs + b.size + c.natAbs
 fix:=fun(_,b,_) (a,_,c)=>(a,b,c)
 σ:= []
 rd:=fv
theorem kJ:LoopOk prog (fun k=>Nat.blt k Tryz.f9.ntmps) ap.F (fm f9 0):=by
 refine Lp.ok (tbl:= [mw]) (lf:= []) cq ap (by kernel_rfl) (LOk.nil _) (fun _=>rfl) (fun j _=>by unfold ap;match j with | 0=>rfl | _ + 1=>rfl) ?_ ?_ ?_ ?_ (fun _=>rfl) ?_
 ·intro _;kernel_rfl
 ·intro _;kernel_rfl
 ·intro s x h
  have h:fv s=some x:=h
  unfold fv at h
  repeat' split at h
  all_goals cases h
  exact⟨ay ‹_› rfl (ay ‹_› rfl (ay ‹_› rfl (rfl))),rfl⟩
 ·intro _;kernel_rfl
 ·intro _ _;exact(And.intro (And.intro trivial rfl) trivial)
section
variable (a:yx)
def bY:Bool:=bif ltI (↑(ByteArray.size a):Int) 1 then true else ltI 12 (↑(ByteArray.size a):Int)
def bZ:Int×yx×Int:=((0:Int),a,(0:Int))
def cM:Bool:=Nat.beq ((Lp.res ap (bZ a)).1) 0
def dd:Int:=(Lp.res ap (bZ a)).2.2.2
def cU:Int:=bif bY a then(0:Int)else bif cM a then(0:Int)else dd a
def bd:Bool:=bif bY a then false else bif cM a then false else ByteArray.toList (fY (dd a))==ByteArray.toList a
def cV:Bool:=allT [bY a||Lp.fin ap (bZ a),bY a||(cM a||leI 0 (dd a)&&ltI (dd a) 1000000000000)]
end
def kr:yy
 | [.one ⟨false,[.val (.string a)]⟩],[]=>some ⟨.tup [⟨false,[yz (cU a)]⟩,⟨false,[.val (.bool (bd a))]⟩],[],[],[cV a]⟩
 |_,_=>none
def kx:PF prog:=PF.ofG prog [mw] [ap.F] cq 9 f9 func9 (LOk.fnT (l:= [fm f9 0]) (by kernel_rfl) (.cons kJ (.nil _))) kr (by
 intro _ _ _ h;unfold kr at h;split at h<;>cases h;kernel_rfl)
abbrev aX:=Int×List yx×List Int
section
variable (a:Int)(b:List yx)
def bc:yx:=w9 b[w7 a]? ByteArray.empty
def cO:Bool:=ltI a (↑b.length:Int)
def dk:Bool:=leI 0 a
def dl:Bool:=ltN a.toNat b.length
def dm:Bool:=cV (bc a b)
def dn:Bool:= !bd (bc a b)
end
def cP:yx:=ByteArray.mk #[]
section
variable (a:Int)(b:List yx)(c:yw)
def dq:Bool:=leN (w8 c + w8 [cU (bc a b)]) (9223372036854775807:Nat)
def dr:Bool:=leN ((w8 c + w8 [cU (bc a b)]) * 8) 140737488355328
def du:Int:=zQ .i64 (a + (1:Int))
def dv:yw:=c++ [cU (bc a b)]
end
def mb:aX→List (Nat×SV)
 |(a,_,_)=> [(7,(yB a)),(5,(yA (.ref 0))),(6,(yA (.ref 1)))]
def lY:aX→List (Nat×Entry)
 |(_,a,b)=> [(0,(yE a)),(1,(yC b))]
def mh:Nat→aX→List (Nat×SV)
 |0,(_,_,_)=> [(2,(yA (.val (.string (cP))))),(3,(yA (.ref 2))),(4,(yA (.val (.bool false))))]
 |_,(_,_,_)=> [(6,(yA (.ref 1)))]
def me:Nat→aX→List (Nat×Entry)
 |0,(_,a,b)=> [(0,(yE a)),(1,(yC b)),(2,(yC []))]
 |_,(_,a,b)=> [(0,(yE a)),(1,(yC b))]
def cX:aX→LT aX
 |(a,b,c)=> .ite (cO a b) (.need [dk a,cO a b,dl a b,dm a b] (.ite (dn a b) (.ext 0 [(0,0),(1,1),(2,1152)]) (.need [dq a b c,dr a b c] (.nrm ((du a),b,(dv a b c)) [(0,0),(1,1280)])))) (.ext 1 [(0,0),(1,1)])
def fw(s:St):Option aX:=do
 let some ⟨none,.one ⟨false,[.val (.int .i64 a)]⟩⟩:=s.look 7|none
 let some ⟨none,.one ⟨false,[.ref 320]⟩⟩:=s.look 5|none
 let some ⟨none,.one ⟨false,[.ref 448]⟩⟩:=s.look 6|none
 let some (.row true 9 (.str) b):=s.ent 320|none
 let some (.row true 2 (.int .i64) c):=s.ent 448|none
 some (a,b,c)
def an:Lp aX where
 h:=⟨[13,14,15,16,20,21,22,23,24,19,25,26,8,9,27,28,2,3,4,29,30,31,32,6,17,18,7],[0],[1],[2]⟩
 JL:=mb
 JE:=lY
 XL:=mh
 XE:=me
 q:=fun j=>match j with | 0=> .ret | _=> .exit 0
 tags:= [0,1]
 lt:=cX
 fuel:=fun(a,b,c)=>a.natAbs + b.length + c.length
 fix:=fun(_,b,_) (a,_,c)=>(a,b,c)
 σ:= [(0,320),(1,448)]
 rd:=fw
theorem kK:LoopOk prog (fun k=>Nat.blt k Tryz.f6.ntmps) an.F (fm f6 0):=by
 refine Lp.ok (tbl:= [ky,kw,kx]) (lf:= []) cq an (by kernel_rfl) (LOk.nil _) (fun _=>rfl) (fun j _=>by unfold an;match j with | 0=>rfl | _ + 1=>rfl) ?_ ?_ ?_ ?_ (fun _=>rfl) ?_
 ·intro _;kernel_rfl
 ·intro _;kernel_rfl
 ·intro s x h
  have h:fw s=some x:=h
  unfold fw at h
  repeat' split at h
  all_goals cases h
  constructor<;>repeat(first|refine ay ‹_› rfl ?_|refine dA rfl ‹_› rfl ?_|rfl)
 ·intro _;kernel_rfl
 ·intro _ _;exact(And.intro (And.intro trivial rfl) trivial)
section
variable (a:yx)
def dU:Int×List yx×yw:=((1:Int),cT a 32,[])
def cN:Bool:=Nat.beq ((Lp.res an (dU a)).1) 0
def gG:yx:=w9 (cT a 32)[w7 0]? ByteArray.empty
def gH:yw:=(Lp.res an (dU a)).2.2.2
def gI:Bool:=cN a||leI 0 0
def gJ:Bool:=cN a||ltI 0 (↑(w8 (cT a 32)):Int)
def gK:Bool:=cN a||ltN (w7 0) (w8 (cT a 32))
def pn:yx:=bif cN a then cP else gG a
def fK:Bool:=bif cN a then false else aV (gG a)==(↑(w8 (gH a)):Int)
def po:yw:=bif cN a then []else gH a
def fL:Bool:=allT [fJ a 32,Lp.fin an (dU a),gI a,gJ a,gK a,gI a,gJ a,gK a]
end
def ku:yy
 | [.one ⟨false,[.val (.string a)]⟩],[]=>some ⟨.tup [⟨false,[.val (.string (pn a))]⟩,⟨false,[.ref 0]⟩,⟨false,[.val (.bool (fK a))]⟩],[],[yC (po a)],[fL a]⟩
 |_,_=>none
def pk:PF prog:=PF.ofG prog [ky,kw,kx] [an.F] cq 6 f6 func6 (LOk.fnT (l:= [fm f6 0]) (by kernel_rfl) (.cons kK (.nil _))) ku (by
 intro _ _ _ h;unfold ku at h;split at h<;>cases h;kernel_rfl)
def dR(a:yx):Bool:=fK a
def dS(a:yx):Bool:=allT [fL a]
def fU:yy
 | [.one ⟨false,[.val (.string a)]⟩],[]=>some ⟨yA (.val (.bool (dR a))),[],[],[dS a]⟩
 |_,_=>none
def jI:PF prog:=PF.ofG prog [pk] [] cq 4 f4 func4 (fun c _=>LOk.nil c) fU (by
 intro _ _ _ h;unfold fU at h;split at h<;>cases h;kernel_rfl)
def cK(a:yx):Bool:=bif ltI 1048576 (↑(ByteArray.size a):Int)then true else bif !dM a==dR a then false else true
def cL(a:yx):Bool:=allT [ltI 1048576 (↑(ByteArray.size a):Int)||dS a,ltI 1048576 (↑(ByteArray.size a):Int)||dN a]
def dK:yy
 | [.one ⟨false,[.val (.string a)]⟩],[]=>some ⟨yA (.val (.bool (cK a))),[],[],[cL a]⟩
 |_,_=>none
def gB:PF prog:=PF.ofG prog [jI,jG] [] cq 3 f3 func3 (fun c _=>LOk.nil c) dK (by
 intro _ _ _ h;unfold dK at h;split at h<;>cases h;kernel_rfl)
theorem tu(s:yx)(i:Nat):s[i]? =s.data.toList[i]? :=by
 by_cases h:i < s.size
 ·rw [getElem?_pos s i h,Array.getElem?_toList]
  have h':i < s.data.size:=h
  rw [Array.getElem?_eq_getElem h']
  rfl
 ·rw [getElem?_neg s i h,Array.getElem?_toList,Array.getElem?_eq_none (show s.data.size≤i from Nat.le_of_not_lt h)]
theorem iu(s:yx):s.size=s.data.toList.length:=rfl
theorem vf(s:yx)(a b:Nat):(s.extract a b).data.toList=(s.data.toList.take b).drop a:=by
 rw [ByteArray.data_extract,Array.toList_extract,List.drop_take]
theorem wL{l r:List yx}(h:l.map (·.data.toList)=r.map (·.data.toList)):l=r:=by
 induction l generalizing r with
 |nil=>cases r with
  |nil=>rfl
  |cons _ _=>cases h
 |cons a l ih=>
  cases r with
  |nil=>cases h
  |cons b r=>
   simp only [List.map_cons,List.cons.injEq]at h
   obtain⟨h1,h2⟩:=h
   rw [ih h2,ByteArray.ext (Array.ext' h1)]
def nY(b:UInt8)(a:Int):Nat ⊕ Int:=bif dig b then .inr (a * 10 + ((b.toNat - 48:Nat):Int))else .inl 0
theorem ti: ∀ (r:List UInt8) (i a:Nat),r.all dig=true→cd nY 1 r i (a:Int)=(1,i + r.length,(mV a r:Int))
 | [],i,a,_=>by rw [tf];rfl
 |b::r,i,a,h=>by
  rw [List.all_cons,q8]at h
  simp only [cd,nY,h.1,cond_true]
  rw [show (a:Int) * 10 + ((b.toNat - 48:Nat):Int)=((a * 10 + (b.toNat - 48):Nat):Int) by omega,ti r (i + 1) _ h.2,oF,w3]
  congr 2;omega
theorem rD: ∀ (r:List UInt8) (i:Nat) (a:Int),r.all dig=false→(cd nY 1 r i a).1=0
 | [],i,a,h=>by cases h
 |b::r,i,a,h=>by
  rw [List.all_cons]at h
  simp only [cd,nY]
  cases hb:dig b with
  |false=>rfl
  |true=>
   rw [hb,Bool.true_and]at h
   exact rD r (i + 1) _ h
theorem we{b:UInt8}:(bif ltI (b.toNat:Int) 48 then true else ltI 57 (b.toNat:Int))= !dig b:=by
 cases hd:dig b with
 |true=>
  have:=ii.1 hd
  rw [nr (by omega),nr (by omega)];rfl
 |false=>
  by_cases h1:b.toNat < 48
  ·rw [gU (by omega)];rfl
  ·by_cases h2:57 < b.toNat
   ·rw [nr (by omega),gU (by omega)];rfl
   ·rw [ii.2 (by omega)]at hd;cases hd
theorem xH(s:yx)(hs:s.size≤12):
  ap.fin (0,s,0)=true∧ap.res (0,s,0)=((cd nY 1 s.data.toList 0 0).1,(((cd nY 1 s.data.toList 0 0).2.1:Int),s,(cd nY 1 s.data.toList 0 0).2.2)):=by
 have eI:=ap.along (fun i a=>((i:Int),s,a)) (fun x=>x.2.2) nY 1 (fun i a=> ∃ u:Nat,a=u∧u < 10 ^ i) s.data.toList 0 ⟨0,rfl,by decide⟩
  (by rw [← iu];simp only [ap];omega) (fun i b a hb hI=> ?_) (fun a hI=> ?_)
 ·exact eI
 ·obtain⟨a,rfl,hI⟩:=hI
  have bI:i < s.size:=(w6.1 hb).1
  have gv:s[i]? =some b:=by rw [tu];exact hb
  have hp:10 ^ i≤10 ^ 11:=Nat.pow_le_pow_right (by decide) (by omega)
  have h11:(10:Nat) ^ 11=100000000000:=by decide
  have hb2:b.toNat < 256:=b.toNat_lt
  have q1:ltI (i:Int) (s.size:Int)=true:=gU (by omega)
  have q2:leI (0:Int) (i:Int)=true:=jf (by omega)
  have hw:IntKind.i64.wrap ((i:Int) + 1)=((i + 1:Nat):Int):=by rw [eN (by omega) (by omega)];omega
  have ha0:co (i:Int) s=(b.toNat:Int):=by simp only [co,q9,gv,Option.getD_some]
  have hn:(ap.lt ((i:Int),s,(a:Int)))=LT.ite true (.need [true,true,true,true] (.ite (!dig b) (.ext 0 []) (.need [true,true] (.nrm (((i + 1:Nat):Int),s,dZ (i:Int) s (a:Int)) [])))) (.ext 1 []):=by
   simp only [ap,fq,dj,fR,iR,iS,iT,iU,ha0,q1,q2,hw,w4,we]
  have h6:dig b=true→dZ (i:Int) s (a:Int)=((a * 10 + (b.toNat - 48):Nat):Int):=fun hd=>by
   have:=ii.1 hd
   simp only [dZ,ha0]
   rw [qG (by omega) (by omega),eN (x:=10 * (a:Int)) (by omega) (by omega),eN (x:=(b.toNat:Int) - 48) (by omega) (by omega),eN (by omega) (by omega)]
   omega
  rw [hn]
  cases hd:dig b with
  |false=>exact⟨rfl,⟨⟨trivial,rfl⟩,trivial⟩,by simp [LT.fn,nY,hd],fun a' h=>by simp [nY,hd]at h⟩
  |true=>
   rw [h6 hd]
   refine⟨rfl,⟨⟨trivial,rfl⟩,trivial⟩,by simp [LT.fn,nY,hd],fun a' h=> ?_⟩
   simp only [nY,hd,cond_true,Sum.inr.injEq]at h
   have:=ii.1 hd
   exact⟨a * 10 + (b.toNat - 48),by omega,by rw [Nat.pow_succ];omega⟩
 ·have q1:ltI (s.data.toList.length:Int) (s.size:Int)=false:=nr (by rw [iu];omega)
  simp only [ap,fq,dj,q1,LT.out,cond_false]
theorem vT(s:yx):bd s=nmW s.data.toList∧cV s=true:=by
 by_cases h:1≤s.size∧s.size≤12
 ·have ha:bY s=false:=by simp only [bY];rw [nr (by omega),nr (by omega)];rfl
  obtain⟨w1,w2⟩:=xH s h.2
  have hl:(Nat.ble 1 s.data.toList.length&&Nat.ble s.data.toList.length 12)=true:=by rw [← iu];simp only [q8,Nat.ble_eq];exact h
  cases hd:s.data.toList.all dig with
  |false=>
   have e2:cM s=true:=by simp only [cM,bZ,w2,rD _ 0 0 hd];rfl
   refine⟨by simp only [bd,ha,e2,cond_false,cond_true,nmW,hd,Bool.false_and,Bool.and_false],by simp only [cV,bZ,w1,e2,allT,w4,Bool.true_or,Bool.and_self];rfl⟩
  |true=>
   have e:cd nY 1 s.data.toList 0 0=_:=ti s.data.toList 0 0 hd
   have e2:cM s=false:=by simp only [cM,bZ,w2,e];rfl
   have e3:dd s=(mV 0 s.data.toList:Int):=by simp only [dd,bZ,w2,e]
   have hb:=si s.data.toList 0 hd
   have hp:10 ^ s.data.toList.length≤10 ^ 12:=Nat.pow_le_pow_right (by decide) (by rw [← iu];exact h.2)
   have h12:(10:Nat) ^ 12=1000000000000:=by decide
   have e4:ByteArray.toList (fY (mV 0 s.data.toList:Int))=Lib.decDigits (mV 0 s.data.toList):=by
    rw [Lib.toList_data];simp only [fY,Lib.itoa_nonneg]
   refine⟨by simp only [bd,ha,e2,e3,cond_false,nmW,hd,hl,e4,Bool.true_and,Lib.toList_data],?_⟩
   have q1:leI 0 (mV 0 s.data.toList:Int)=true:=jf (by omega)
   have q2:ltI (mV 0 s.data.toList:Int) 1000000000000=true:=gU (by omega)
   simp only [cV,bZ,w1,e3,q1,q2,allT,w4,Bool.and_self];rfl
 ·have ha:bY s=true:=by
   simp only [bY]
   by_cases h1:s.size < 1
   ·rw [gU (by omega)];rfl
   ·rw [gU (a:=12) (by omega)];cases ltI (s.size:Int) 1 <;> rfl
  have hl:(Nat.ble 1 s.data.toList.length&&Nat.ble s.data.toList.length 12)=false:=by
   rw [← iu]
   cases hq:(Nat.ble 1 s.size&&Nat.ble s.size 12)with
   |false=>rfl
   |true=>simp only [q8,Nat.ble_eq]at hq;exact absurd hq h
  exact⟨by simp only [bd,ha,cond_true,nmW,hl,Bool.false_and],by simp only [cV,ha,Bool.true_or,allT];rfl⟩
def ls(s:yx)(b:Nat):Bool:=bif Nat.beq b s.size then true else(s.data.toList[b]?.getD 0)==32
def gSp(s:yx)(a:Int×List yx)(b:Nat):Int×List yx:=bif ls s b then(((b + 1:Nat):Int),a.2++ [s.extract a.1.toNat b])else a
def fSp(s:yx)(b:Nat)(a:Int×List yx):Nat ⊕ (Int×List yx):= .inr (gSp s a b)
theorem xc(s:yx)(i:Nat)(h:i≤s.size):bm (i:Int) s 32=ls s i:=by
 simp only [bm,ls,q9,tu]
 cases hb:Nat.beq i s.size with
 |true=>
  have:=Nat.eq_of_beq_eq_true hb
  rw [show ((i:Int)==(s.size:Int))=true by rw [this];exact beq_self_eq_true _];rfl
 |false=>
  have ij: ¬ (i:Int)=(s.size:Int):=fun e=>by rw [Int.ofNat.inj e,Nat.beq_refl]at hb;cases hb
  rw [show ((i:Int)==(s.size:Int))=false from beq_eq_false_iff_ne.2 ij]
  show (((s.data.toList[i]?.getD 0).toNat:Int)==32)=_
  rw [Bool.eq_iff_iff,beq_iff_eq,cond_false,beq_iff_eq]
  constructor
  ·intro e;exact UInt8.toNat.inj (by rw [Int.ofNat.inj e];rfl)
  ·intro e;rw [e];rfl
theorem xS(s:yx)(hs:s.size≤1048576):
  aq.fin (0,s,32,0,[])=true∧(aq.res (0,s,32,0,[])).2.2.2.2.2=((List.range (s.size + 1)).foldl (gSp s) (0,[])).2:=by
 have eI:=aq.along (fun i (a:Int×List yx)=>((i:Int),s,(32:Int),a.1,a.2)) (fun x=>(x.2.2.2.1,x.2.2.2.2)) (fSp s) 0
  (fun i a=> ∃ u:Nat,a.1=u∧u≤i∧a.2.length≤i) (List.range (s.size + 1)) (0,[]) ⟨0,rfl,Nat.le_refl _,Nat.le_refl _⟩
  (by rw [List.length_range];simp only [aq];omega) (fun i b a hb hI=> ?_) (fun a hI=> ?_)
 ·refine⟨eI.1,?_⟩
  rw [show aq.res (0,s,32,0,[])=_ from eI.2,oZ (f:=fSp s) (g:=gSp s) fun _ _=>rfl]
 ·obtain⟨rfl,bI⟩:=uY hb
  obtain⟨f,out⟩:=a
  obtain⟨u,hu,hub,hol⟩:=hI
  simp only at hu hol
  subst hu
  have hw:IntKind.i64.wrap ((b:Int) + 1)=((b + 1:Nat):Int):=by rw [eN (by omega) (by omega)];omega
  have q0:leI (b:Int) (s.size:Int)=true:=jf (by omega)
  have q1:leI (0:Int) (b:Int)=true:=jf (by omega)
  have q2:leI (0:Int) (u:Int)=true:=jf (by omega)
  have q3:leI (u:Int) (b:Int)=true:=jf (by omega)
  have q4:fQ (b:Int) s=true:=by
   simp only [fQ,fy]
   by_cases he:b=s.size
   ·rw [show ((b:Int)==(s.size:Int))=true by rw [he];exact beq_self_eq_true _];rfl
   ·rw [gU (by omega),w4]
  have q5:leN (out.length + [s.extract u b].length) 9223372036854775807=true:=qb (by simp;omega)
  have q6:leN ((out.length + [s.extract u b].length) * 16) 140737488355328=true:=qb (by simp;omega)
  have hn:aq.lt ((b:Int),s,(32:Int),(u:Int),out)=LT.ite true (.need [true,true] (.need [true,true,true,true,true] (.ite (ls s b) (.nrm (((b + 1:Nat):Int),s,32,((b + 1:Nat):Int),out++ [s.extract u b]) [(0,1408)]) (.nrm (((b + 1:Nat):Int),s,32,(u:Int),out) [(0,0)])))) (.ext 0 [(0,0)]):=by
   simp only [aq,fo,fP,iK,q4,iL,iM,iN,iO,iP,iQ,dY,ia,
    xc s b (by omega),q9,q0,q1,q2,q3,q5,q6,hw,w4]
  rw [hn]
  refine⟨by cases h:ls s b <;> rfl,⟨⟨rfl,rfl⟩,trivial⟩,?_,fun a' h=> ?_⟩
  ·simp only [fSp,gSp,LT.fn,q9,cond_true]
   cases ls s b <;> rfl
  ·simp only [fSp,gSp,Sum.inr.injEq]at h
   cases rS:ls s b with
   |true=>
    rw [rS,cond_true]at h;subst h
    exact⟨b + 1,rfl,Nat.le_refl _,by simp;omega⟩
   |false=>
    rw [rS,cond_false]at h;subst h
    exact⟨u,rfl,by omega,by simp;omega⟩
 ·have q1:leI ((s.size + 1:Nat):Int) (s.size:Int)=false:=xy (by omega)
  rw [List.length_range]
  simp only [aq,fo,fP,q1,LT.out,cond_false]
theorem se(s:yx): ∀ (k i:Nat),i + k=s.size→ ∀ (u:Nat) (out:List yx),u≤i→
  ∃ h t,spL 32 (s.data.toList.drop i)=h::t∧((List.range' i (k + 1)).foldl (gSp s) ((u:Int),out)).2.map (·.data.toList)=out.map (·.data.toList)++((s.data.toList.take i).drop u++h)::t
 |0,i,hi,u,out,hu=>by
  have hi:i=s.size:=by omega
  have e:ls s i=true:=by simp only [ls,hi,Nat.beq_refl,cond_true]
  refine⟨[],[],?_,?_⟩
  ·rw [List.drop_eq_nil_of_le (by rw [hi,iu];exact Nat.le_refl _)];rfl
  ·simp only [List.range',List.foldl_cons,List.foldl_nil,gSp,e,cond_true,q9,List.map_append,List.map_cons,List.map_nil,vf,List.append_nil]
 |k + 1,i,hi,u,out,hu=>by
  have bI:i < s.data.toList.length:=by rw [← iu];omega
  have ed:s.data.toList.drop i=s.data.toList[i]::s.data.toList.drop (i + 1):=List.drop_eq_getElem_cons bI
  have es:ls s i=(s.data.toList[i]==32):=by
   have ij:Nat.beq i s.size=false:=by
    cases hb:Nat.beq i s.size with
    |false=>rfl
    |true=>have:=Nat.eq_of_beq_eq_true hb;omega
   simp only [ls,ij,cond_false,List.getElem?_eq_getElem bI,Option.getD_some]
  rw [List.range'_succ,List.foldl_cons,ed]
  cases hc:s.data.toList[i]==32 with
  |true=>
   obtain⟨h,t,e1,e2⟩:=se s k (i + 1) (by omega) (i + 1) (out++ [s.extract u i]) (Nat.le_refl _)
   refine⟨[],h::t,by simp only [spL,e1,hc,cond_true],?_⟩
   rw [show gSp s ((u:Int),out) i=(((i + 1:Nat):Int),out++ [s.extract u i]) by simp only [gSp,es,hc,cond_true,q9],e2,
    List.drop_eq_nil_of_le (by rw [List.length_take];omega)]
   simp only [List.map_append,List.map_cons,List.map_nil,vf,List.append_assoc,List.nil_append,List.append_nil,List.cons_append]
  |false=>
   obtain⟨h,t,e1,e2⟩:=se s k (i + 1) (by omega) u out (by omega)
   refine⟨s.data.toList[i]::h,t,by simp only [spL,e1,hc,cond_false],?_⟩
   rw [show gSp s ((u:Int),out) i=((u:Int),out) by simp only [gSp,es,hc,cond_false],e2]
   rw [List.take_succ_eq_append_getElem bI,List.drop_append_of_le_length (by rw [List.length_take];omega),List.append_assoc]
   rfl
theorem vS(s:yx)(hs:s.size≤1048576):cT s 32=hO 32 s∧fJ s 32=true:=by
 obtain⟨w1,w2⟩:=xS s hs
 refine⟨wL ?_,?_⟩
 ·obtain⟨h,t,e1,e2⟩:=se s s.size 0 (by omega) 0 [] (Nat.le_refl _)
  have e3:cT s 32=((List.range (s.size + 1)).foldl (gSp s) (0,[])).2:=w2
  rw [e3,List.range_eq_range',show ((0:Int),([]:List yx))=(((0:Nat):Int),[]) from rfl,e2]
  simp only [List.drop_zero]at e1
  rw [show hO 32 s=Lib.splitB ⟨#[32]⟩ 0 (Lib.countB s ⟨#[32]⟩) s from rfl,rz,e1]
  simp
 ·simp only [fJ,gF,w1,allT];rfl
def bo(a:List yx)(b:yx×(Int×Unit)):(Unit)→Nat ⊕ (Unit)
 |_=>(bif(fN b.1 a)then(.inl 0)else(.inr ()))
def aO(a:List (yx×(Int×Unit)))(b:List yx)(i:Nat):(Unit)→au
 |_=>((i:Int),(↑a.length:Int),a,b)
def dF:au→Unit
 |(_,_,_,_)=>()
theorem jL(c:List (yx×(Int×Unit)))(e:List yx) (hn:c.length≤9223372036854775807) (h0:dg e=true):
  ai.fin ((0:Int),(↑c.length:Int),c,e)=true∧ai.res ((0:Int),(↑c.length:Int),c,e)=((cd (bo e) 1 c 0 ()).1,(aO c e) (cd (bo e) 1 c 0 ()).2.1 (cd (bo e) 1 c 0 ()).2.2):=by
 have eI:=ai.along (aO c e) dF (bo e) 1 (fun _ _=>True) c () (by trivial) (by simp only [ai,aO];omega) (fun i b a hb hI=> ?_) (fun a hI=> ?_)
 ·exact eI
 ·obtain⟨⟩:=a
  have bI:=(w6.1 hb).1
  have gv: ∀ d,w9 c[i]? d=b:=fun d=>by rw [hb];rfl
  have hw:=um bI hn
  have hdec:ltI (i:Int) (c.length:Int)=true:=gU (by omega)
  have hnn:leI (0:Int) (i:Int)=true:=jf (by omega)
  have hltd:ltN i c.length=true:=qg bI
  refine⟨?_,?_,?_,?_⟩
  ·simp [bR,bS,bT,bU,bV,bW,bX,bL,ai,LT.nds,allT,aO,hdec,hnn,hltd,gv,h0]
  ·simp [bR,bS,bT,bU,bV,bW,bX,bL,ai,LT.each,aO,dF,hw,h0]
  ·simp only [bR,bS,bT,bU,bV,bW,bX,bL,ai,LT.fn,aO,dF,bo,q9,hdec,hnn,hltd,gv,cond_true,w5,h0]
  ·exact fun _ _=>trivial
 ·obtain⟨⟩:=a
  simp [bR,bS,bT,bU,bV,bW,bX,bL,ai,LT.out,aO]
def aw(b:yx):(Unit)→Nat ⊕ (Unit)
 |_=>(bif(aC b)then(.inl 0)else(.inr ()))
def ak(a:List yx)(i:Nat):(Unit)→ah
 |_=>((i:Int),(↑a.length:Int),a)
def bD:ah→Unit
 |(_,_,_)=>()
theorem fE(c:List yx) (hn:c.length≤9223372036854775807) (h0: ∀ b∈c,dh b=true):
  ab.fin ((0:Int),(↑c.length:Int),c)=true∧ab.res ((0:Int),(↑c.length:Int),c)=((cd (aw) 1 c 0 ()).1,(ak c) (cd (aw) 1 c 0 ()).2.1 (cd (aw) 1 c 0 ()).2.2):=by
 have eI:=ab.along (ak c) bD (aw) 1 (fun _ _=>True) c () (by trivial) (by simp only [ab,ak];omega) (fun i b a hb hI=> ?_) (fun a hI=> ?_)
 ·exact eI
 ·obtain⟨⟩:=a
  have bI:=(w6.1 hb).1
  have gv: ∀ d,w9 c[i]? d=b:=fun d=>by rw [hb];rfl
  have hw:=um bI hn
  have hdec:ltI (i:Int) (c.length:Int)=true:=gU (by omega)
  have hnn:leI (0:Int) (i:Int)=true:=jf (by omega)
  have hltd:ltN i c.length=true:=qg bI
  refine⟨?_,?_,?_,?_⟩
  ·simp [ar,aH,aI,aJ,aK,aL,aM,aN,aE,ab,LT.nds,allT,ak,hdec,hnn,hltd,gv,h0 b (List.mem_of_getElem? hb)]
  ·simp [ar,aH,aI,aJ,aK,aL,aM,aN,aE,ab,LT.each,ak,bD,hw]
  ·simp only [ar,aH,aI,aJ,aK,aL,aM,aN,aE,ab,LT.fn,ak,bD,aw,q9,hdec,hnn,hltd,gv,cond_true,w5]
  ·exact fun _ _=>trivial
 ·obtain⟨⟩:=a
  simp [ar,aH,aI,aJ,aK,aL,aM,aN,aE,ab,LT.out,ak]
def aZ(b:yx):(yw)→Nat ⊕ (yw)
 |a=>(bif(!rdB b)then(.inl 0)else(.inr (a++ [rdN (b)])))
def bi(a:List yx)(i:Nat):(yw)→aB
 |b=>((i:Int),(↑a.length:Int),a,b)
def dW:aB→yw
 |(_,_,_,a)=>a
theorem kN(c:List yx)(e:yw)(hn:c.length≤9223372036854775807)(h0: ∀ b∈c,b.size≤1048576)(hm:c.length≤1048577)(hz:e= []):
  aj.fin ((0:Int),(↑c.length:Int),c,e)=true∧aj.res ((0:Int),(↑c.length:Int),c,e)=((cd (aZ) 1 c 0 e).1,(bi c) (cd (aZ) 1 c 0 e).2.1 (cd (aZ) 1 c 0 e).2.2):=by
 have eI:=aj.along (bi c) dW (aZ) 1 (fun i a=>a.length=i) c e (by rw [hz];rfl) (by simp only [aj,bi];omega) (fun i b a hb hI=> ?_) (fun a hI=> ?_)
 ·exact eI
 ·obtain e:=a
  have bI:=(w6.1 hb).1
  have gv: ∀ d,w9 c[i]? d=b:=fun d=>by rw [hb];rfl
  have hw:=um bI hn
  have hdec:ltI (i:Int) (c.length:Int)=true:=gU (by omega)
  have hnn:leI (0:Int) (i:Int)=true:=jf (by omega)
  have hltd:ltN i c.length=true:=qg bI
  refine⟨?_,?_,?_,?_⟩
  ·have hq:=h0 b (List.mem_of_getElem? hb);simp [aF,cu,cv,cw,cz,cA,cB,cC,cD,cE,cF,cg,aj,LT.nds,allT,bi,hdec,hnn,hltd,gv,hq,hI];exact .inr (by omega)
  ·simp [aF,cu,cv,cw,cz,cA,cB,cC,cD,cE,cF,cg,aj,LT.each,bi,dW,hw]
  ·simp only [aF,cu,cv,cw,cz,cA,cB,cC,cD,cE,cF,cg,aj,LT.fn,bi,dW,aZ,q9,hdec,hnn,hltd,gv,cond_true,w5]
  ·intro a' hf;simp only [aZ]at hf;cases hq:rdB b with | false=>rw [hq]at hf;cases hf | true=>rw [hq]at hf;cases hf;rw [List.length_append,hI];rfl
 ·obtain e:=a
  simp [aF,cu,cv,cw,cz,cA,cB,cC,cD,cE,cF,cg,aj,LT.out,bi]
def bu(b:yx):(yw)→Nat ⊕ (yw)
 |a=>(bif(!bd b)then(.inl 0)else(.inr (a++ [cU (b)])))
def bF(a:List yx)(i:Nat):(yw)→aX
 |b=>(((i + 1:Nat):Int),a,b)
def ft:aX→yw
 |(_,_,a)=>a
theorem mW(c:List yx)(e:yw)(hn:c.length≤9223372036854775807)(h0: ∀ b,cV b=true)(hm:c.length≤1048577)(hz:e= []):
  an.fin ((1:Int),c,e)=true∧an.res ((1:Int),c,e)=((cd (bu) 1 (c.drop 1) 0 e).1,(bF c) (cd (bu) 1 (c.drop 1) 0 e).2.1 (cd (bu) 1 (c.drop 1) 0 e).2.2):=by
 have eI:=an.along (bF c) ft (bu) 1 (fun i a=>a.length=i) (c.drop 1) e (by rw [hz];rfl) (by simp only [an,bF,List.length_drop];omega) (fun i b a hb hI=> ?_) (fun a hI=> ?_)
 ·exact eI
 ·obtain e:=a
  rw [List.getElem?_drop,Nat.add_comm]at hb
  have bI:=(w6.1 hb).1
  have gv: ∀ d,w9 c[i + 1]? d=b:=fun d=>by rw [hb];rfl
  have hw:IntKind.i64.wrap (((i + 1:Nat):Int) + 1)=((i + 1 + 1:Nat):Int):=by rw [eN (by omega) (by omega)];omega
  have hdec:ltI ((i + 1:Nat):Int) (c.length:Int)=true:=gU (by omega)
  have hnn:leI (0:Int) ((i + 1:Nat):Int)=true:=jf (by omega)
  have hltd:ltN (i + 1) c.length=true:=qg bI
  refine⟨?_,?_,?_,?_⟩
  ·have q1:leN (a.length + 1) 9223372036854775807=true:=qb (by omega);have q2:leN ((a.length + 1) * 8) 140737488355328=true:=qb (by omega);simp only [bc,cO,dk,dl,dm,dn,cP,dq,dr,du,dv,cX,an,LT.nds,allT,bF,q9,hdec,hnn,hltd,gv,h0,q1,q2,List.length_singleton,cond_true,w5]
  ·simp only [bc,cO,dk,dl,dm,dn,cP,dq,dr,du,dv,cX,an,LT.each,bF,ft,hw,and_self]
  ·simp only [bc,cO,dk,dl,dm,dn,cP,dq,dr,du,dv,cX,an,LT.fn,bF,ft,bu,q9,hdec,hnn,hltd,gv,cond_true,w5]
  ·intro a' hf;simp only [bu]at hf;cases hq:bd b with | false=>rw [hq]at hf;cases hf | true=>rw [hq]at hf;cases hf;rw [List.length_append,hI];rfl
 ·obtain e:=a
  simp only [bc,cO,dk,dl,dm,dn,cP,dq,dr,du,dv,cX,an,LT.out,bF,List.length_drop];rw [show ltI (((c.length - 1) + 1:Nat):Int) (c.length:Int)=false from nr (by omega)];rfl
theorem sj{A B:Type}{f:B→A→Nat ⊕ A}{P:B→Bool}{g:A→B→A}{e j:Nat}(hf: ∀ b a,f b a=bif P b then .inr (g a b)else .inl j): ∀ (r:List B) (i:Nat) (a:A),
  (r.all P=true→cd f e r i a=(e,i + r.length,r.foldl g a))∧(r.all P=false→(cd f e r i a).1=j)
 | [],i,a=>⟨fun _=>rfl,fun h=>by cases h⟩
 |b::r,i,a=>by
  obtain⟨h1,h2⟩:=sj hf r (i + 1) (g a b)
  simp only [cd,List.all_cons,hf]
  cases hb:P b with
  |false=>exact⟨fun h=>by simp at h,fun _=>rfl⟩
  |true=>
   simp only [cond_true,Bool.true_and]
   exact⟨fun h=>by rw [h1 h,w3,List.foldl_cons];congr 2;omega,h2⟩
theorem sE{B C:Type}(h:B→C): ∀ (r:List B) (a:List C),(r.foldl (fun a b=>a++ [h b]) a).length=a.length + r.length
 | [],a=>rfl
 |b::r,a=>by rw [List.foldl_cons,sE h r,List.length_append,w3,w3,List.length_nil];omega
def nJ:List (yx×(Int×Unit)):=bJ++cR++bK
theorem cc0:bG [bJ,cR,bK]=nJ:=by kernel_rfl
theorem pA:nJ.length=21:=by kernel_rfl
theorem vZ: ∀ b∈nJ,aV b.1=b.2.1:=by
 intro b
 simp only [eS,eT,eU,eV,eW,eX,eY,eZ,fa,fb,ey,ez,eA,eB,eC,eD,eE,aV,Lib.toList_data]
 revert b
 decide +kernel
theorem vj{w:yx}(h:nJ.any (fun b=>b.1.toList==w.toList)=false):aV w= -1:=by
 have h: ∀ b∈nJ,(w.toList==b.1.toList)=false:=fun b hb=>by
  have:=List.any_eq_false.1 h b hb
  rw [Bool.not_eq_true]at this
  rw [← this,Bool.beq_comm]
 simp only [nJ,bJ,cR,bK,List.cons_append,List.nil_append,List.forall_mem_cons]at h
 simp only [eS,eT,eU,eV,eW,eX,eY,eZ,fa,fb,ey,ez,eA,eB,eC,eD,eE,aV,h,cond_false]
theorem uv{B:Type}{P:B→Bool}: ∀ {r:List B},r.any P=true→ ∃ b,r[(r.takeWhile fun b=> !P b).length]? =some b∧P b=true
 | [],h=>by cases h
 |b::r,h=>by
  rw [List.any_cons]at h
  cases hb:P b with
  |true=>exact⟨b,by simp [List.takeWhile_cons,hb],hb⟩
  |false=>
   rw [hb,Bool.false_or]at h
   obtain⟨c,h1,h2⟩:=uv h
   exact⟨c,by simp [List.takeWhile_cons,hb,h1],h2⟩
theorem wV{w:yx}{t:List yx}:dE nJ (w::t)=true∧
  ((bz nJ (w::t)= -1∧aV w= -1)∨ ∃ (k:Nat) (b:yx×(Int×Unit)),bz nJ (w::t)=k∧k < 21∧nJ[k]? =some b∧b.2.1=aV w):=by
 have h1:dg (w::t)=true:=by
  have q1:ltI 0 ((w::t).length:Int)=true:=gU (by simp only [w3];omega)
  have q2:ltN (w7 0) (w::t).length=true:=qg (by simp only [w3];exact Nat.succ_pos _)
  simp only [dg,q1,q2,allT];rfl
 obtain⟨w1,w2⟩:=jL nJ (w::t) (by rw [pA];decide) h1
 have e:=oG (f:=bo (w::t)) (P:=fun b=>b.1.toList==w.toList) (e:=1) (j:=0) (a:=()) (fun b=>rfl) (r:=nJ) (i:=0)
 rw [e]at w2
 refine⟨by simp only [dE,w1,allT];rfl,?_⟩
 cases ha:nJ.any (fun b=>b.1.toList==w.toList)with
 |false=>
  refine .inl ⟨?_,vj ha⟩
  simp only [bz,w2,ha];rfl
 |true=>
  obtain⟨b,hb,hp⟩:=uv ha
  refine .inr ⟨_,b,?_,?_,hb,?_⟩
  ·simp only [bz,w2,ha,aO,cond_true,Nat.zero_add];rfl
  ·have:=(w6.1 hb).1
   rw [pA]at this;exact this
  ·have hp:=eq_of_beq hp
   rw [Lib.toList_data,Lib.toList_data]at hp
   have:b.1=w:=ByteArray.ext (Array.ext' hp)
   rw [← vZ b (List.mem_of_getElem? hb),this]
theorem xF{t:List yx}(h0: ∀ b∈t,b.size≤1048576)(hm:t.length≤1048577):am t=t.all rdB∧dV t=true:=by
 obtain⟨w1,w2⟩:=kN t [] (by omega) h0 hm rfl
 obtain⟨h1,h2⟩:=sj (f:=aZ) (P:=rdB) (g:=fun a b=>a++ [rdN b]) (e:=1) (j:=0) (fun b a=>by unfold aZ;cases rdB b <;> rfl) t 0 []
 refine⟨?_,by simp only [dV,cn,w1,allT];rfl⟩
 cases hq:t.all rdB with
 |false=>simp only [am,dI,cn,w2,h2 hq];rfl
 |true=>simp only [am,dI,cn,w2,h1 hq];rfl
theorem vg{b:yx}(h:0 < b.size):dh b=true∧aC b= !(!tN b.data.toList&&Nat.ble b.data.toList.length 12):=by
 have q:ltI 0 (b.size:Int)=true:=gU (by omega)
 refine⟨by simp only [dh,q,allT];rfl,?_⟩
 simp only [aC,tu,iu]
 obtain⟨⟨l⟩⟩:=b
 cases l with
 |nil=>exact absurd h (by simp [ByteArray.size])
 |cons c r=>
  have e1:(((c::r)[w7 0]?.getD 0).toNat:Int)=(c.toNat:Int):=rfl
  have e2:((c.toNat:Int)==45)=(c==45):=by
   rw [Bool.eq_iff_iff,beq_iff_eq,beq_iff_eq]
   exact⟨fun e=>UInt8.toNat.inj (by rw [Int.ofNat.inj e];rfl),fun e=>by rw [e];rfl⟩
  have e3:ltI 12 ((c::r).length:Int)= !Nat.ble (c::r).length 12:=by
   cases hb:Nat.ble (c::r).length 12 with
   |true=>exact nr (by have:=Nat.le_of_ble_eq_true hb;omega)
   |false=>
    have: ¬ (c::r).length≤12:=fun h=>by rw [Nat.ble_eq_true_of_le h]at hb;cases hb
    exact gU (by omega)
  simp only [e1,e2,e3,tN]
  cases c==45 <;> simp
theorem vF{t:List yx}(h0: ∀ b∈t,0 < b.size)(hm:t.length≤1048577):af t=t.any aC∧aG t=true:=by
 obtain⟨w1,w2⟩:=fE t (by omega) fun b hb=>(vg (h0 b hb)).1
 have e:=oG (f:=aw) (P:=aC) (e:=1) (j:=0) (a:=()) (fun b=>rfl) (r:=t) (i:=0)
 rw [e]at w2
 refine⟨?_,by simp only [aG,cm,aT,w1,allT];rfl⟩
 simp only [af,ck,aT,w2,ak,Nat.zero_add]
 cases t.any aC with
 |true=>exact jf (by simp)
 |false=>rfl
def uL(w:yx)(t:List yx):Bool:=aV w==(t.length:Int)&&t.all fun b=>nmW b.data.toList
theorem vM{s w:yx}{t:List yx}(hs:s.size≤1048576)(rS:hO 32 s=w::t)(hm:t.length≤1048576):fK s=uL w t∧fL s=true:=by
 obtain⟨p1,p2⟩:=vS s hs
 rw [rS]at p1
 obtain⟨w1,w2⟩:=mW (w::t) [] (by simp only [w3];omega) (fun b=>(vT b).2) (by simp only [w3];omega) rfl
 obtain⟨h1,h2⟩:=sj (f:=bu) (P:=bd) (g:=fun a b=>a++ [cU b]) (e:=1) (j:=0) (fun b a=>by unfold bu;cases bd b <;> rfl) t 0 []
 simp only [List.drop_succ_cons,List.drop_zero]at w2
 have q1:ltI 0 ((w::t).length:Int)=true:=gU (by simp only [w3];omega)
 have q2:ltN (w7 0) (w::t).length=true:=qg (by simp only [w3];exact Nat.succ_pos _)
 have q0:leI 0 0=true:=rfl
 have ev:(fun b:yx=>nmW b.data.toList)=bd:=funext fun b=>((vT b).1).symm
 refine⟨?_,?_⟩
 ·simp only [fK,cN,dU,gG,gH,p1,w2,uL,ev]
  cases hq:t.all bd with
  |false=>rw [h2 hq,Bool.and_false];rfl
  |true=>
   rw [h1 hq,Bool.and_true]
   show (aV w==((t.foldl (fun a b=>a++ [cU b]) []).length:Int))=_
   rw [sE];simp
 ·simp only [fL,gI,gJ,gK,dU,p1,p2,w1,q0,q1,q2,allT,w4];rfl
theorem wK{b:yx}(h:rdB b=true):0 < b.size:=by
 obtain⟨⟨l⟩⟩:=b
 cases l with
 |nil=>exact absurd h (by decide +kernel)
 |cons c r=>simp [ByteArray.size]
theorem wa(w:yx)(t:List yx):(t.all rdB&& !(t.any aC))=t.all fun b=>nmW b.data.toList:=by
 induction t with
 |nil=>rfl
 |cons b r ih=>
  rw [List.all_cons,List.all_cons,List.any_cons,← ih,← xE]
  show (rdW b.data.toList&&_&&_)=_
  cases hb:rdW b.data.toList with
  |false=>rfl
  |true=>
   rw [(vg (wK (b:=b) hb)).2]
   cases (!tN b.data.toList&&Nat.ble b.data.toList.length 12) <;> cases List.all r rdB <;> cases List.any r aC <;> rfl
theorem uG(c:UInt8): ∀ l:List UInt8,(spL c l).length≤l.length + 1∧ ∀ x∈spL c l,x.length≤l.length
 | []=>⟨Nat.le_refl _,fun x hx=>by rw [zW.1 hx];exact Nat.le_refl _⟩
 |b::r=>by
  obtain⟨h,t,e⟩:=sd c r
  obtain⟨h1,h2⟩:=uG c r
  rw [e]at h1 h2
  simp only [spL,e]
  cases b==c with
  |true=>
   refine⟨by simp only [cond_true,w3]at h1 ⊢;omega,fun x hx=> ?_⟩
   rcases List.mem_cons.1 hx with rfl | hx
   ·exact Nat.zero_le _
   ·have:=h2 x hx;simp only [w3];omega
  |false=>
   refine⟨by simp only [cond_false,w3]at h1 ⊢;omega,fun x hx=> ?_⟩
   rcases List.mem_cons.1 hx with rfl | hx
   ·have:=h2 h (List.mem_cons_self ..);simp only [w3];omega
   ·have:=h2 x (List.mem_cons_of_mem _ hx);simp only [w3];omega
theorem xI(s:yx): ∃ w t,hO 32 s=w::t∧t.length≤s.size∧ ∀ b∈t,b.size≤s.size:=by
 have e:(hO 32 s).map (·.data.toList)=spL 32 s.data.toList:=rz 32 s
 obtain⟨h1,h2⟩:=uG 32 s.data.toList
 obtain⟨h,r,e2⟩:=sd 32 s.data.toList
 cases hq:hO 32 s with
 |nil=>rw [hq,e2]at e;cases e
 |cons w t=>
  rw [hq]at e
  rw [← e]at h1 h2
  refine⟨w,t,rfl,?_,fun b hb=> ?_⟩
  ·simp only [List.length_map,w3]at h1;rw [iu];omega
  ·rw [iu,iu];exact h2 _ (List.mem_map_of_mem (List.mem_cons_of_mem _ hb))
theorem wP{s w:yx}{t:List yx}(hs:s.size≤1048576)(rS:hO 32 s=w::t)(hm:t.length≤1048576)(hb: ∀ b∈t,b.size≤1048576):dO s=uL w t∧dP s=true:=by
 obtain⟨r1,r2⟩:=xF hb (by omega:t.length≤1048577)
 obtain⟨i1,i2⟩:=wV (w:=w) (t:=t)
 have e3:ao s=t:=by
  simp only [ao,rS,q9,List.take_length];rfl
 have e0:aP s=bz nJ (w::t):=by simp only [aP,cc0,rS]
 have hl:IntKind.i64.wrap (((w::t).length:Int) - 1)=(t.length:Int):=by
  rw [eN (by simp only [w3];omega) (by simp only [w3];omega)];simp only [w3];omega
 have m1:leN s.size 4294967280=true:=qb (by omega)
 have m2:leN (w::t).length maxLen=true:=qb (Nat.le_trans (by simp only [w3];omega:_≤1048577) (by decide))
 have m3:leI 0 1=true:=rfl
 have m4:leI 1 ((w::t).length:Int)=true:=jf (by simp only [w3];omega)
 have m5:leI ((w::t).length:Int) ((w::t).length:Int)=true:=vI _
 rcases i2 with⟨hi,hc⟩ | ⟨k,b,hi,hk,hbk,hc⟩
 ·have e2:al s=true:=by simp only [al,e0,hi];rfl
  refine⟨?_,?_⟩
  ·have:((-1:Int)==(t.length:Int))=false:=beq_eq_false_iff_ne.2 (by omega)
   simp only [dO,e2,uL,hc,this,cond_true,Bool.false_and]
  ·have q:ltI (-1) 0=true:=rfl
   simp only [dP,e2,e0,hi,rS,cc0,i1,m1,m2,q,allT,Bool.true_or,Bool.not_true,Bool.false_and,Bool.not_false];rfl
 ·have q:ltI (k:Int) 0=false:=nr (by omega)
  have e1:ep s=aV w:=by simp only [ep,e0,hi,cc0,q9,hbk,Option.getD_some,hc]
  have e2:al s= !(aV w==(t.length:Int)):=by
   simp only [al,e0,hi,q,cond_false,rS,hl,e1,bne]
   rw [Bool.beq_comm]
  have m6:leI 0 (k:Int)=true:=jf (by omega)
  have m7:eq s=true:=by simp only [eq,e0,hi,cc0,pA];exact gU (by omega)
  have m8:er s=true:=by simp only [er,e0,hi,cc0,pA,q9];exact qg hk
  have m9:et s=true:=by simp only [et,rS];exact m4
  have m10:eu s=true:=by simp only [eu,rS];exact m5
  have m11:aG (aW s)=true∧(t.all rdB=true→af (aW s)=t.any aC):=by
   simp only [aW,e3,r1]
   cases hq:t.all rdB with
   |false=>exact⟨(vF (t:= []) (fun _ h=>by cases h) (by decide)).2,fun h=>by cases h⟩
   |true=>
    have h:=vF (t:=t) (fun b hb=>wK (List.all_eq_true.1 hq b hb)) (by omega)
    exact⟨h.2,fun _=>h.1⟩
  refine⟨?_,?_⟩
  ·simp only [dO,e2,e3,r1,uL,← wa w t]
   cases aV w==(t.length:Int)with
   |false=>rfl
   |true=>
    cases hq:t.all rdB with
    |false=>rfl
    |true=>
     rw [m11.2 hq]
     cases t.any aC <;> rfl
  ·simp only [dP,e0,e3,hi,rS,cc0,i1,m1,m2,m3,m6,m7,m8,m9,m10,m11.1,r2,q,allT,w4];rfl
theorem wb(s:yx)(_:wfD .str s):cK s=true∧cL s=true:=by
 simp only [cK,cL]
 cases hl:ltI 1048576 (s.size:Int)with
 |true=>exact⟨rfl,rfl⟩
 |false=>
  have hs:s.size≤1048576:=by have:=lP.1 hl;omega
  obtain⟨w,t,rS,ht,hb⟩:=xI s
  obtain⟨p1,p2⟩:=vM hs rS (by omega)
  obtain⟨c1,c2⟩:=wP hs rS (by omega) fun b h=>Nat.le_trans (hb b h) hs
  refine⟨?_,?_⟩
  ·simp only [dM,dR,c1,p1]
   cases uL w t <;> rfl
  ·simp only [dN,dS,c2,p2];rfl
end Go.SX
