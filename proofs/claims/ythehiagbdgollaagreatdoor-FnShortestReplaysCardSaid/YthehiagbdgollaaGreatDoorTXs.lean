import Derived.Test.YthehiagbdgollaaGreatDoorTXh
import Derived.Sort.OwnSortedInts
set_option linter.unusedSimpArgs false
set_option linter.unusedVariables false
open Nat renaming eq_of_beq_eq_true → q8
namespace Go.SX
open Go.RowKit Go.Sort
def ZJ(xs:List Int):List Int:=xs.mergeSort fun x y=>decide (x≤y)
theorem ZK(xs:List Int):(ZJ xs).length=xs.length:=by unfold ZJ;exact(List.mergeSort_perm _ _).length_eq
def akf(e:TypeId):List SV→List Entry→Option Out
 | [.one ⟨false,[.ref 0]⟩],[.row true e' (.int .i64) (x::xs)]=>bif Nat.beq e' e then some ⟨.tup [],[.row true e (.int .i64) (ZJ (x::xs))],[],[leN (List.length (x::xs)) 4611686018427387903]⟩else none
 |_,_=>none
theorem jY.ints{H:Nat→Option Obj}: ∀ {cs:List Value} {xs:List Int},jY H (.int .i64) cs xs→cs=xs.map (Value.int .i64):=by
 intro cs xs h
 refine List.ext_getElem? fun i=> ?_
 have hl:cs.length=xs.length:=by rw [h.1];exact Nat.mul_one _
 by_cases hi:i < xs.length
 ·have:=h.2 i xs[i] (List.getElem?_eq_getElem hi)
  simp only [Rep,CTy.size,Nat.mul_one]at this
  have h2:=congrArg (fun l=>l[0]?) this
  simp [List.getElem?_take,List.getElem?_drop]at h2
  simp [h2,List.getElem?_eq_getElem hi]
 ·rw [List.getElem?_eq_none (by omega),List.getElem?_eq_none (by simp;omega)]
theorem jY.of_ints{H:Nat→Option Obj}(xs:List Int):jY H (.int .i64) (xs.map (Value.int .i64)) xs:=by
 refine⟨by rw [List.length_map];exact(Nat.mul_one _).symm,fun i x hx=> ?_⟩
 simp only [Rep,CTy.size,Nat.mul_one]
 obtain⟨gm,he⟩:=List.getElem?_eq_some_iff.1 hx
 have hl:i < (xs.map (Value.int .i64)).length:=by rw [List.length_map];exact gm
 rw [List.drop_eq_getElem_cons hl,List.take_succ_cons,List.take_zero,List.getElem_map]
 exact congrArg (fun y=> [Value.int .i64 y]) he
theorem ahX{P:Program}{k:FuncId}{e:TypeId}
  (hc: ∀ (blk off cap:Nat) (zs:List Int) (w:World),Holds (Value.int .i64) w blk off zs.toArray→blk < w.heap.size→zs.length < 4611686018427387904→
   Calls P k #[.slice (some ⟨blk,off,none⟩) zs.length cap] w fun e w'=>e= .returned (.tuple #[])∧ ∃ n os,w'=grow (putRow (Value.int .i64) (Sort.ahead w n) blk off (zs.mergeSort fun x y=>decide (x≤y)).toArray) os)
  (zs ys:List Int) (h0:0 < zs.length) (hys:ys=ZJ zs) (jw:zs.length≤4611686018427387903) (mem:Nat→Option Obj) (ρ:Nm) (w:World) (hp:HpL w mem [.row true e (.int .i64) zs] ρ w):
  Calls P k ([SV.one ⟨false,[.ref 0]⟩].map (SV.conc ρ)).toArray w fun en w'=>Ext (memB w mem) (fun i=>Nat.blt i 1) ρ ρ∧en= .returned ((SV.tup []).conc ρ)∧HpL w mem [.row true e (.int .i64) ys] ρ w':=by
 obtain⟨⟨cs,h1,h2,h3⟩,hu,_⟩:=hp.he 0 _ rfl
 have hyl:ys.length=zs.length:=by rw [hys];exact ZK _
 have Jr:=jY.ints h2
 rcases h1.2 with⟨_,hn⟩ | ⟨g,cap,cur,hv,hc0,hg,hnc,TZ,hcur,Ub⟩
 ·have:zs.length=0:=hn
  omega
 ·have htk':cur.toList.take zs.length=zs.map (Value.int .i64):=by
   rw [← Jr,← Ub]
   congr 1
   exact(Nat.mul_one _).symm
  have hv:ρ 0= .slice (some ⟨g,0,none⟩) zs.length cap:=hv
  have hnc:zs.length≤cap:=hnc
  have hcur:cur.size=cap * 1:=hcur
  have hHd:Holds (Value.int .i64) w g 0 zs.toArray:=holds_of_blockI hg htk'
  have hgs:=(Array.getElem?_eq_some_iff.1 hg).1
  have hcall:=hc g 0 cap zs w hHd hgs (by omega)
  have harg:([SV.one ⟨false,[.ref 0]⟩].map (SV.conc ρ)).toArray= #[.slice (some ⟨g,0,none⟩) zs.length cap]:=by
   simp [SV.conc,V1.conc,Cell.conc,hv]
  rw [harg]
  refine hcall.mono fun en w' ⟨he,n,os,hw⟩=> ?_
  have hgr:w.grownBy w' (some g):=by rw [hw];exact grownBy_sortedI _
  have pT:w'.ownsRow 0 e 1 (.slice (some ⟨g,0,none⟩) zs.length cap) zs.length (ys.map (Value.int .i64)):=by
   rw [hw,hys]
   exact ownsRow_sortedI (w:=w) (base:=0) (g:=g) (cap:=cap) (n:=n) (e:=e) (os:=os) (cur:=cur) (ss:=zs) (ts:=ZJ zs) (ZK _) (Nat.zero_le _) hg hnc TZ hcur
  have hown2:CC w' e (CTy.int IntKind.i64).size (ρ 0) ys.length (ys.map (Value.int .i64)):=by
   rw [hv,hyl]
   exact LU pT
  obtain⟨hX,hH⟩:=Hp.chg (es:= [(0,.row true e (.int .i64) ys)]) (new:= []) (ρ':=ρ) hp (Chg.grown hgr) (fun _ _=>rfl) (fun _ _ h=>h)
   (fun k hk=>⟨0,_,_,rfl,by cases hk;simp only [Entry.ob,hv];rw [sn hc0];simp,rfl⟩)
   (fun b o hb=> .inl hb)
   (fun id en YE=>by
    simp only [look?]at YE
    cases hb:Nat.beq 0 id with
    |false=>rw [hb]at YE;cases YE
    |true=>
     rw [hb]at YE;cases YE
     have:=q8 hb
     subst this
     exact⟨⟨_,hown2,jY.of_ints _,h3⟩,ic _ hu,trivial⟩)
   (fun id en b YE hb=>by
    simp only [look?]at YE
    cases hq:Nat.beq 0 id with
    |false=>rw [hq]at YE;cases YE
    |true=>
     rw [hq]at YE;cases YE
     have:=q8 hq
     subst this
     exact .inr ⟨0,_,_,rfl,hb,rfl⟩)
   (fun id id' en en' b YE hen' _ _=>by
    simp only [look?]at YE hen'
    cases hq:Nat.beq 0 id with
    |false=>rw [hq]at YE;cases YE
    |true=>
     cases hq':Nat.beq 0 id' with
     |false=>rw [hq']at hen';cases hen'
     |true=>rw [← q8 hq,← q8 hq'])
  refine⟨hX,by rw [he];rfl,?_⟩
  unfold HpL
  refine Hp.less (ent1:=aZ (fun i=> [Entry.row true e (.int .i64) zs][i]?) [(0,.row true e (.int .i64) ys)]) ⟨fun id en YE=> ?_,hH.hi,hH.hf⟩ fun id e2 he2=> ?_
  ·obtain⟨q1,q2,q3⟩:=hH.he id en YE
   refine⟨q1,?_,?_⟩
   ·simpa [bk,memN] using q2
   ·exact Entry.inU_mono (fun i hi=>by simpa [bk,memN] using hi) q3
  ·cases id with
   |zero=>
    simp at he2;subst he2
    exact⟨_,rfl,(hH.he 0 _ rfl).1,fun _ h=>h,trivial⟩
   |succ i=>simp at he2
def PF.sort{P:Program}(k:FuncId)(e:TypeId)
  (hc: ∀ (blk off cap:Nat) (zs:List Int) (w:World),Holds (Value.int .i64) w blk off zs.toArray→blk < w.heap.size→zs.length < 4611686018427387904→
   Calls P k #[.slice (some ⟨blk,off,none⟩) zs.length cap] w fun e w'=>e= .returned (.tuple #[])∧ ∃ n os,w'=grow (putRow (Value.int .i64) (Sort.ahead w n) blk off (zs.mergeSort fun x y=>decide (x≤y)).toArray) os):PF P where
 k:=k
 F:=akf e
 ok:=by
  intro args es o h dq mem ρ w hp
  unfold akf at h
  split at h
  ·rename_i e' x xs
   cases hq:Nat.beq e' e with
   |false=>rw [hq]at h;cases h
   |true=>
    rw [hq]at h
    have:=q8 hq
    subst this
    cases h
    have jw:=uk.1 (dq _ (List.mem_singleton.2 rfl))
    refine(ahX hc (x::xs) _ (Nat.succ_pos _) rfl jw mem ρ w hp).mono fun en w' ⟨h1,h2,h3⟩=>⟨ρ,h1,h2,rfl,(by intro v hv';cases hv'),h3⟩
  ·cases h
end Go.SX
