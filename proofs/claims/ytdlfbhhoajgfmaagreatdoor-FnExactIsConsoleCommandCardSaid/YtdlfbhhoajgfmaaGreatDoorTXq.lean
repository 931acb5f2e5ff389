import Derived.Test.YtdlfbhhoajgfmaaGreatDoorTXh
import Derived.Below
import Derived.Lib.ItoaNum
import Derived.Lib.Join
import Derived.Lib.LaidTab
import Derived.Lib.Split
import Derived.Lib.ParseIntB
set_option linter.unusedSimpArgs false
set_option linter.unusedVariables false
namespace Go.SX
open Go.RowKit
theorem qy{P:Program}{k:FuncId}{es:List Entry}{res:SV}{args:List SV}{mem:Nat→Option Obj}{ρ:Nm}{w:World}
  (hc:Calls P k (args.map (SV.conc ρ)).toArray w fun e w'=>e= .returned (res.conc ρ)∧Chg w w' (fun _=>False)) (hp:HpL w mem es ρ w) (ei:res.inU (fun i=>Nat.blt i es.length)):
  Calls P k (args.map (SV.conc ρ)).toArray w fun e w'=> ∃ ρ':Nm,Ext (memB w mem) (fun i=>Nat.blt i es.length) ρ ρ'∧e= .returned (res.conc ρ')∧es.length=es.length∧
   res.inU (fun i=>Nat.blt i (es++ []).length)∧HpL w mem (es++ []) ρ' w':=by
 refine hc.mono fun e w' ⟨he,ux⟩=> ?_
 obtain⟨hX,hH⟩:=Hp.chg (es:= []) (new:= []) (ρ':=ρ) hp ux (fun _ _=>rfl) (fun _ _ h=>h) (fun k hk=>hk.elim) (fun b o hb=> .inl hb)
  (fun id en pX=>by cases pX) (fun id en b pX hb=>by cases pX) (fun id id' en en' b pX=>by cases pX)
 refine⟨ρ,hX,he,rfl,by rw [List.append_nil];exact ei,?_⟩
 rw [List.append_nil]
 unfold HpL
 refine Hp.less (ent1:=ae (fun i=>es[i]?) []) ⟨fun id en pX=> ?_,hH.hi,hH.hf⟩ fun id e2 he2=> ?_
 ·obtain⟨q1,q2,q3⟩:=hH.he id en pX
  refine⟨q1,?_,?_⟩
  ·simpa [ag,memN] using q2
  ·exact Entry.inU_mono (fun i hi=>by simpa [ag,memN] using hi) q3
 ·exact⟨e2,by simpa [ae,look?] using he2,(hH.he id e2 (by simpa [ae,look?] using he2)).1,fun _ h=>h,(hp.he id e2 he2).2.2⟩
theorem Chg.below{w w':World}(h:Below w.heap.size w w'):Chg w w' (fun _=>False):=⟨h.os,h.tape,h.output,h.size,fun k hk _=>h.block k hk⟩
def fY(n:Int):ByteArray:=⟨(Lib.itoa n).toArray⟩
def wH:List SV→List Entry→Option Out
 | [.one ⟨false,[.val (.int .i64 n)]⟩,.one ⟨false,[.val (.int .i64 b)]⟩],[]=>bif b==10 then some ⟨.one ⟨false,[.val (.string (fY n))]⟩,[],[],[leI (-9223372036854775808) n,leI n 9223372036854775807]⟩else none
 |_,_=>none
def PF.itoa{P:Program}(k:FuncId)
  (hc: ∀ (n:Int) (w:World), -9223372036854775808≤n→n≤9223372036854775807→GlOk (fun b=>w.heap[b]?)→
   Calls P k #[.int .i64 n,.int .i64 10] w fun e w'=>e= .returned (.string (fY n))∧Below w.heap.size w w'):PF P where
 k:=k
 F:=wH
 ok:=by
  intro args es o h ba mem ρ w hp
  unfold wH at h
  split at h
  ·rename_i n b
   cases hb:b==10 with
   |false=>rw [hb]at h;cases h
   |true=>
    rw [hb]at h
    have hb:=eq_of_beq hb
    subst hb
    cases h
    have h1:=je.1 (ba _ (List.mem_cons_self ..))
    have h2:=je.1 (ba _ (List.mem_cons_of_mem _ (List.mem_singleton.2 rfl)))
    refine qy (res:= .one ⟨false,[.val (.string (fY n))]⟩) (es:= []) ((hc n w h1 h2 (GlOk.mono hp.hf.dat hp.hf.gl)).mono fun e w' ⟨he,hB⟩=>⟨he,Chg.below hB⟩) hp ?_
    simp [SV.inU,V1.inU,Cell.inU]
  ·cases h
theorem wU{P:Program}{w:World}{name:String}{g:Nat}{T e:TypeId}{k:IntKind}{zs:List Int}(hgl:GlOk fun b=>w.heap[b]?)(hm:(⟨g,T,e,.int k,zs⟩:GEnt)∈GT)(hg:P.globalNamed name=some g):
  Lib.TabIs P w name k zs:=by
 obtain⟨_,arr,T,fz,h1,hs,h2⟩:=hgl.1 _ hm
 have ha:arr=(zs.map fun z=>Value.int k z).toArray:=by
  apply Array.ext'
  apply List.ext_getElem?
  intro i
  by_cases hi:i < zs.length
  ·have hq:=h2 i zs[i] (List.getElem?_eq_getElem hi)
   simp only [Rep,CTy.size,Nat.mul_one]at hq
   have h0:=congrArg (fun l=>l[0]?) hq
   simp [List.getElem?_take,List.getElem?_drop]at h0
   simp [h0,hi]
  ·have hs':arr.size=zs.length:=hs.trans (Nat.mul_one _)
   rw [List.getElem?_eq_none (by simp;omega),List.getElem?_eq_none (by simp;omega)]
 have h1':w.heap[g]? =some (.cells arr T fz):=h1
 simp [Lib.TabIs,World.var?,hg,h1',ha]
end Go.SX
namespace Go.SX
open Go.RowKit
theorem uH(w:World)(o:Obj):(w.alloc o).heap[w.heap.size]? =some o:=by unfold World.alloc;exact Array.getElem?_push_size ..
theorem vt(xs:List ByteArray)(i:Nat)(x:ByteArray)(h:xs[i]? =some x):(((xs.map Value.string).toArray.toList.drop i).take 1)= [Value.string x]:=by
 obtain⟨bI,rfl⟩:=List.getElem?_eq_some_iff.1 h
 have hl:i < (xs.map Value.string).length:=by rw [List.length_map];exact bI
 rw [show (xs.map Value.string).toArray.toList=xs.map Value.string from rfl,List.drop_eq_getElem_cons hl,List.take_succ_cons,List.take_zero,List.getElem_map]
theorem tJ{P:Program}{k:FuncId}{T:TypeId}{xs:List ByteArray}{args:List SV}{mem:Nat→Option Obj}{ρ:Nm}{w:World}
  (hc:Calls P k (args.map (SV.conc ρ)).toArray w fun e w'=>e= .returned (.slice (some ⟨w.heap.size,0,none⟩) xs.length xs.length)∧w'=w.alloc (.cells (xs.map Value.string).toArray T))
  (bj:xs.length≤maxLen) (hp:HpL w mem [] ρ w):
  Calls P k (args.map (SV.conc ρ)).toArray w fun e w'=> ∃ ρ':Nm,Ext (memB w mem) (fun i=>Nat.blt i 0) ρ ρ'∧e= .returned ((SV.one ⟨false,[.ref 0]⟩).conc ρ')∧([]:List Entry).length=0∧
   (SV.one ⟨false,[.ref 0]⟩).inU (fun i=>Nat.blt i ([]++ [Entry.row false T .str xs]).length)∧HpL w mem ([]++ [Entry.row false T .str xs]) ρ' w':=by
 refine hc.mono fun e w' ⟨he,hw⟩=> ?_
 obtain⟨v,hv⟩: ∃ v,v=Value.slice (some ⟨w.heap.size,0,none⟩) xs.length xs.length:=⟨_,rfl⟩
 obtain⟨o,ho⟩: ∃ o,o=Obj.cells (xs.map Value.string).toArray T:=⟨_,rfl⟩
 rw [← ho]at hw
 let ρ':Nm:=⟨fun i=>bif Nat.beq i 0 then v else ρ.nm i,fun b=>if b=w.heap.size then some o else ρ.mem b,ρ.fp⟩
 have h0:ρ' 0=v:=by show eM v=v;rw [hv];rfl
 have hnone:ρ.mem w.heap.size=none:=by
  cases hm:ρ.mem w.heap.size with
  |none=>rfl
  |some q=>have:=(Array.getElem?_eq_some_iff.1 (hp.hf.dat _ _ hm)).1;omega
 have aS:ρ'.mem w.heap.size=some o:=by show (if w.heap.size=w.heap.size then some o else _)=_;rw [if_pos rfl]
 obtain⟨hX,hH⟩:=Hp.chg (es:= [(0,.row false T .str xs)]) (new:= [0]) (ρ':=ρ') hp (hw ▸ Chg.alloc w o) (fun id aR=>by cases aR)
  (fun b q hb=>by
   show (if b=w.heap.size then some o else ρ.mem b)=some q
   rw [if_neg (fun e=>by rw [e,hnone]at hb;cases hb)];exact hb)
  (fun k hk=>hk.elim)
  (fun b q hb=>by
   have hb:(if b=w.heap.size then some o else ρ.mem b)=some q:=hb
   split at hb
   ·rename_i e
    cases hb
    exact .inr ⟨by rw [hw,e];exact uH w o,⟨_,_,ho⟩,.inl (by omega)⟩
   ·exact .inl hb)
  (fun id en pX=>by
   obtain⟨rfl,rfl⟩:=look?_one pX
   refine⟨?_,by simp [ag,memN],trivial⟩
   show eO ρ'.mem .str (ρ' 0) xs
   rw [h0,hv]
   refine .inr ⟨w.heap.size,0,xs.length,_,T,(0,0),rfl,Nat.le_refl _,bj,by rw [aS,ho],fun i x hx=> ?_⟩
   exact vt xs (0 + i * 1) x (by rw [Nat.zero_add,Nat.mul_one];exact hx))
  (fun id en b pX hb=>by
   obtain⟨rfl,rfl⟩:=look?_one pX
   cases hb)
  (fun id id' en en' b pX hen' _ _=>by
   obtain⟨rfl,rfl⟩:=look?_one pX
   obtain⟨rfl,rfl⟩:=look?_one hen'
   rfl)
 refine⟨ρ',hX,?_,rfl,by simp [SV.inU,V1.inU,Cell.inU],?_⟩
 ·rw [he,← hv];show _=Ending.returned (ρ' 0);rw [h0]
 ·unfold HpL
  refine Hp.less (ent1:=ae (fun i=>([]:List Entry)[i]?) [(0,.row false T .str xs)]) ⟨fun id en pX=> ?_,hH.hi,hH.hf⟩ fun id e2 he2=> ?_
  ·obtain⟨q1,q2,q3⟩:=hH.he id en pX
   have hU: ∀ id,ag (fun i=>Nat.blt i ([]:List Entry).length) [0] id=true→Nat.blt id 1=true:=fun id h=>by
    match id with
    |0=>rfl
    |id + 1=>exact absurd h (by simp [ag,memN,Nat.blt])
   exact⟨q1,hU id q2,Entry.inU_mono (fun i hi=>hU i hi) q3⟩
  ·match id with
   |0=>cases he2;exact⟨_,rfl,(hH.he 0 _ rfl).1,fun _ h=>h,trivial⟩
   |id + 1=>cases he2
def hO(c:UInt8)(s:ByteArray):List ByteArray:=Lib.splitB ⟨#[c]⟩ 0 (Lib.countB s ⟨#[c]⟩) s
def vR(t:TypeId):List SV→List Entry→Option Out
 | [.one ⟨false,[.val (.string s)]⟩,.one ⟨false,[.val (.string ⟨⟨[c]⟩⟩)]⟩],[]=>some ⟨.one ⟨false,[.ref 0]⟩,[],[.row false t .str (hO c s)],[leN s.size 4294967280,leN (hO c s).length maxLen]⟩
 |_,_=>none
def PF.split{P:Program}(k:FuncId)(t:TypeId)
  (hc: ∀ (s:ByteArray) (c:UInt8) (w:World),s.size≤4294967280→
   Calls P k #[.string s,.string ⟨#[c]⟩] w fun e w'=>e= .returned (.slice (some ⟨w.heap.size,0,none⟩) (hO c s).length (hO c s).length)∧w'=w.alloc (.cells ((hO c s).map Value.string).toArray t)):PF P where
 k:=k
 F:=vR t
 ok:=by
  intro args es o h ba mem ρ w hp
  unfold vR at h
  split at h
  ·rename_i s c
   cases h
   have h1:=np.1 (ba _ (List.mem_cons_self ..))
   have h2:=np.1 (ba _ (List.mem_cons_of_mem _ (List.mem_singleton.2 rfl)))
   exact tJ (args:= [.one ⟨false,[.val (.string s)]⟩,.one ⟨false,[.val (.string ⟨⟨[c]⟩⟩)]⟩]) (hc s c w h1) h2 hp
  ·cases h
def rdN(s:ByteArray):Int:=match Lib.parseIntB 64 s.data.toList with
 | .ok v=>v
 | .range=>Lib.intSat 64 s.data.toList
 |_=>0
def xD(f:ByteArray→Bool):List SV→List Entry→Option Out
 | [.one ⟨false,[.val (.string s)]⟩],[]=>some ⟨.tup [⟨false,[.val (.int .i64 (rdN s))]⟩,⟨false,[.val (.bool (f s))]⟩],[],[],[leN s.size 1048576]⟩
 |_,_=>none
def PF.num{P:Program}(k:FuncId)(f:ByteArray→Bool)
  (hc: ∀ (s:ByteArray) (w:World),s.size≤1048576→GlOk (fun b=>w.heap[b]?)→
   Calls P k #[.string s] w fun e w'=>e= .returned (.tuple #[.int .i64 (rdN s),.bool (f s)])∧Below w.heap.size w w'):PF P where
 k:=k
 F:=xD f
 ok:=by
  intro args es o h ba mem ρ w hp
  unfold xD at h
  split at h
  ·rename_i s
   cases h
   have h1:=np.1 (ba _ (List.mem_singleton.2 rfl))
   refine qy (res:= .tup [⟨false,[.val (.int .i64 (rdN s))]⟩,⟨false,[.val (.bool (f s))]⟩]) (es:= []) ((hc s w h1 (GlOk.mono hp.hf.dat hp.hf.gl)).mono fun e w' ⟨he,hB⟩=>⟨he,Chg.below hB⟩) hp ?_
   simp [SV.inU,V1.inU,Cell.inU]
  ·cases h
end Go.SX
