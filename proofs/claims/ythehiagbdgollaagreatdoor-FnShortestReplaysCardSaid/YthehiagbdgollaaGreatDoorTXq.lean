import Derived.Test.YthehiagbdgollaaGreatDoorTXh
import Derived.Below
import Derived.Lib.ItoaNum
import Derived.Lib.Join
import Derived.Lib.LaidTab
set_option linter.unusedSimpArgs false
set_option linter.unusedVariables false
namespace Go.SX
open Go.RowKit
theorem agr{P:Program}{k:FuncId}{es:List Entry}{res:SV}{args:List SV}{mem:Nat→Option Obj}{ρ:Nm}{w:World}
  (hc:Calls P k (args.map (SV.conc ρ)).toArray w fun e w'=>e= .returned (res.conc ρ)∧Chg w w' (fun _=>False)) (hp:HpL w mem es ρ w) (BV:res.inU (fun i=>Nat.blt i es.length)):
  Calls P k (args.map (SV.conc ρ)).toArray w fun e w'=> ∃ ρ':Nm,Ext (memB w mem) (fun i=>Nat.blt i es.length) ρ ρ'∧e= .returned (res.conc ρ')∧es.length=es.length∧
   res.inU (fun i=>Nat.blt i (es++ []).length)∧HpL w mem (es++ []) ρ' w':=by
 refine hc.mono fun e w' ⟨he,hch⟩=> ?_
 obtain⟨hX,hH⟩:=Hp.chg (es:= []) (new:= []) (ρ':=ρ) hp hch (fun _ _=>rfl) (fun _ _ h=>h) (fun k hk=>hk.elim) (fun b o hb=> .inl hb)
  (fun id en YE=>by cases YE) (fun id en b YE hb=>by cases YE) (fun id id' en en' b YE=>by cases YE)
 refine⟨ρ,hX,he,rfl,by rw [List.append_nil];exact BV,?_⟩
 rw [List.append_nil]
 unfold HpL
 refine Hp.less (ent1:=aZ (fun i=>es[i]?) []) ⟨fun id en YE=> ?_,hH.hi,hH.hf⟩ fun id e2 he2=> ?_
 ·obtain⟨q1,q2,q3⟩:=hH.he id en YE
  refine⟨q1,?_,?_⟩
  ·simpa [bk,memN] using q2
  ·exact Entry.inU_mono (fun i hi=>by simpa [bk,memN] using hi) q3
 ·exact⟨e2,by simpa [aZ,look?] using he2,(hH.he id e2 (by simpa [aZ,look?] using he2)).1,fun _ h=>h,(hp.he id e2 he2).2.2⟩
theorem Chg.below{w w':World}(h:Below w.heap.size w w'):Chg w w' (fun _=>False):=⟨h.os,h.tape,h.output,h.size,fun k hk _=>h.block k hk⟩
def Ge(n:Int):ByteArray:=⟨(Lib.itoa n).toArray⟩
def akc:List SV→List Entry→Option Out
 | [.one ⟨false,[.val (.int .i64 n)]⟩,.one ⟨false,[.val (.int .i64 b)]⟩],[]=>bif b==10 then some ⟨.one ⟨false,[.val (.string (Ge n))]⟩,[],[],[leI (-9223372036854775808) n,leI n 9223372036854775807]⟩else none
 |_,_=>none
def PF.itoa{P:Program}(k:FuncId)
  (hc: ∀ (n:Int) (w:World), -9223372036854775808≤n→n≤9223372036854775807→GlOk (fun b=>w.heap[b]?)→
   Calls P k #[.int .i64 n,.int .i64 10] w fun e w'=>e= .returned (.string (Ge n))∧Below w.heap.size w w'):PF P where
 k:=k
 F:=akc
 ok:=by
  intro args es o h dq mem ρ w hp
  unfold akc at h
  split at h
  ·rename_i n b
   cases hb:b==10 with
   |false=>rw [hb]at h;cases h
   |true=>
    rw [hb]at h
    have hb:=eq_of_beq hb
    subst hb
    cases h
    have h1:=HM.1 (dq _ (List.mem_cons_self ..))
    have h2:=HM.1 (dq _ (List.mem_cons_of_mem _ (List.mem_singleton.2 rfl)))
    refine agr (res:= .one ⟨false,[.val (.string (Ge n))]⟩) (es:= []) ((hc n w h1 h2 (GlOk.mono hp.hf.dat hp.hf.gl)).mono fun e w' ⟨he,hB⟩=>⟨he,Chg.below hB⟩) hp ?_
    simp [SV.inU,V1.inU,Cell.inU]
  ·cases h
theorem akx{P:Program}{w:World}{name:String}{g:Nat}{T e:TypeId}{k:IntKind}{zs:List Int}(hgl:GlOk fun b=>w.heap[b]?)(hm:(⟨g,T,e,.int k,zs⟩:GEnt)∈GT)(hg:P.globalNamed name=some g):
  Lib.TabIs P w name k zs:=by
 obtain⟨_,arr,T,fz,h1,hs,h2⟩:=hgl.1 _ hm
 have ha:arr=(zs.map fun z=>Value.int k z).toArray:=by
  apply Array.ext'
  apply List.ext_getElem?
  intro i
  by_cases hi:i < zs.length
  ·have hq:=h2 i zs[i] (List.getElem?_eq_getElem hi)
   simp only [Rep,CTy.size,Nat.mul_one]at hq
   have h0:=congrArg (fun l=>l[0]?) hq
   simp [List.getElem?_take,List.getElem?_drop]at h0
   simp [h0,hi]
  ·have hs':arr.size=zs.length:=hs.trans (Nat.mul_one _)
   rw [List.getElem?_eq_none (by simp;omega),List.getElem?_eq_none (by simp;omega)]
 have h1':w.heap[g]? =some (.cells arr T fz):=h1
 simp [Lib.TabIs,World.var?,hg,h1',ha]
end Go.SX
