import Derived.Test.YtbajbgcdcaknpaaGreatDoorTXh
set_option linter.unusedSimpArgs false
set_option linter.unusedVariables false
namespace Go.SX
open Go.RowKit
def aut(ent:Nat→Option Entry)(p:Nat×Nat):Bool:=
 match ent p.1 with
 |some (.box _ cs)=>match cs[p.2]? with
  |some (.ref i)=>match ent i with
   |some (.row false _ _ _)=>true
   |_=>false
  |_=>false
 |_=>false
def aqd(m:Nat)(G:List Nat)(s:St):Option St:=
 match ajT ((aoF s.ent m (aX 0 m)).filter fun p=> !aut s.ent p) ((s.next + 9) * 64) s.ent s.used with
 |some (e,u)=>some { s with ent:=anv G e,used:=u }
 |none=>none
def ai7(P:Program)(fn:Func)(m:Nat)(G:List Nat)(s:St):Option Out:=
 match anQ P fn s with
 |some v=>bif v.inUb s.used then match aqd m G s with
   |some s'=>amf s' m v (Yu s'.ent 4 (aiT (aX 0 m) v.ids))
   |none=>none
  else none
 |none=>none
section
variable{P:Program}{tbl:List (PF P)}{s:St}{B:Base}{ρ:Nm}{a:Act}{w:World}{fn:Func}
theorem arw{m:Nat}{G:List Nat}{s':St}(h:Hp B ρ s.ent s.used w)(hc:aqd m G s=some s'):
  ∃ ρ':Nm,Ext B s.used ρ ρ'∧Hp B ρ' s'.ent s'.used w:=by
 unfold aqd at hc
 split at hc
 ·rename_i e u OG
  cases hc
  obtain⟨ρ1,x1,_,h1⟩:=ajU h OG
  refine⟨ρ1,x1,?_⟩
  show Hp B ρ1 (anv G e) u w
  refine h1.less fun id e2 he=> ?_
  simp only [anv]at he
  cases hm:memN G id with
  |false=>
   simp only [hm,cond_false]at he
   exact⟨e2,he,(h1.he id e2 he).1,fun _ h=>h,(h1.he id e2 he).2.2⟩
  |true=>
   simp only [hm,cond_true]at he
   split at he
   ·rename_i e1 he1
    cases he
    exact⟨e1,he1,trivial,(fun b hb=>by cases hb),trivial⟩
   ·cases he
 ·cases hc
theorem apr(m:Nat)(G:List Nat):ahN P fn m (ai7 P fn m G):=by
 intro B ρ s a w o hM hu h
 unfold ai7 at h
 split at h
 ·rename_i v hv
  have hr:=ZQ hM hv
  cases MJ:v.inUb s.used with
  |false=>simp [MJ]at h
  |true=>
   simp only [MJ,cond_true]at h
   split at h
   ·rename_i s' hcn
    obtain⟨ρ1,x1,h1⟩:=arw hM.hp hcn
    obtain⟨ρ',h1,h2,h3,h4,h5⟩:=afr h1 h
    refine⟨ρ',(x1.sub hu).trans h1 fun _ h=>h,?_,h3,h4,h5⟩
    rw [h2,SV.conc_congr (U:=s.used) (fun id kS=>x1.nm id kS) (SV.inUb_sound MJ)]
    exact hr
   ·cases h
 ·cases h
def aqc(P:Program)(tbl:List (PF P))(lf:List (St→R))(fn:Func)(args:List SV)(es:List Entry):Option Out:=
 match fn.body with
 |some c=>bif args.all (SV.inUb fun i=>Nat.blt i es.length)&&Nat.ble args.length fn.ntmps then(Sa P tbl (fun k=>Nat.blt k fn.ntmps) lf c (init args es)).outB (ai7 P fn es.length (alG es))else none
 |none=>none
theorem ak6{k:FuncId}(aO:P.follows .mixedOrders=true)(hf:P.funcs[k]? =some fn){lf:List (St→R)}(hl: ∀ c,fn.body=some c→LOk P (fun k=>Nat.blt k fn.ntmps) lf c){args:List SV}{es:List Entry}{o:Out}
  (h:aqc P tbl lf fn args es=some o) (bE: ∀ b∈o.nd,b=true) (mem:Nat→Option Obj) (ρ:Nm) (w:World) (hp:HpL w mem es ρ w):
  Calls P k (args.map (SV.conc ρ)).toArray w fun e w'=> ∃ ρ':Nm,Ext (memB w mem) (fun i=>Nat.blt i es.length) ρ ρ'∧e= .returned (o.res.conc ρ')∧o.es.length=es.length∧
   o.res.inU (fun i=>Nat.blt i (o.es++o.new).length)∧HpL w mem (o.es++o.new) ρ' w':=by
 unfold aqc at h
 split at h
 ·rename_i c hc
  cases hck:(args.all (SV.inUb fun i=>Nat.blt i es.length)&&Nat.ble args.length fn.ntmps)with
  |false=>simp [hck]at h
  |true=>
   simp only [hck,cond_true]at h
   simp only [Bool.and_eq_true,List.all_eq_true]at hck
   have hM:=Mdl.init (Nat.le_of_ble_eq_true hck.2) (fun v hv=>SV.inUb_sound (hck.1 v hv)) hp
   have hlo:ahN P fn es.length (ai7 P fn es.length (alG es)):=apr es.length (alG es)
   refine calls_of_wp hf hc ?_
   have hpost:=R.sat_and (ajk h bE) (af6 (P:=P) (tbl:=tbl) (W:=fun k=>Nat.blt k fn.ntmps) lf c (SX.init args es) (hl c hc))
   refine wp_mono (wL (B:=ans fn.ntmps w mem) aO lf c _ _ (hl c hc) hpost _ _ w hM) fun e a' w' ⟨x,s',ρ1,he,hx1,hM',⟨hx,o',ho',KU⟩,hu⟩=> ?_
   obtain⟨ρ2,x2,hr,l2,i2,h2⟩:=hlo hM' (fun i hi=>hu i hi) ho'
   rw [← KU.res]at hr
   have hfin: ∃ ρ':Nm,Ext (memB w mem) (fun i=>Nat.blt i es.length) ρ ρ'∧Ending.returned (o.res.conc ρ2)=Ending.returned (o.res.conc ρ')∧o.es.length=es.length∧
     o.res.inU (fun i=>Nat.blt i (o.es++o.new).length)∧HpL w mem (o.es++o.new) ρ' w':=by
    refine⟨ρ2,?_,rfl,by rw [KU.len,l2],KU.inU i2,KU.hp _ _ _ _ h2⟩
    have x3:Ext (ans fn.ntmps w mem) (fun i=>Nat.blt i es.length) ρ ρ2:=Ext.trans (U':=fun i=>Nat.blt i es.length) hx1 x2 fun _ h=>h
    exact⟨x3.nm,x3.old,x3.new⟩
   subst he
   rcases hx with rfl | rfl <;> exact⟨hM'.hd,_,hr,hfin⟩
 ·cases h
def asa(P:Program)(tbl:List (PF P))(lf:List (St→R))(fn:Func)(args:List SV)(es:List Entry):Option Out:=
 match aqc P tbl lf fn args es with
 |some o=>some ⟨o.res,adN es o.es,o.new,nd1 o.nd⟩
 |none=>none
def PF.ofGK(P:Program)(tbl:List (PF P))(lf:List (St→R))(aO:P.follows .mixedOrders=true)(k:FuncId)(fn:Func)(hf:P.funcs[k]? =some fn)(hl: ∀ c,fn.body=some c→LOk P (fun k=>Nat.blt k fn.ntmps) lf c)
  (F:List SV→List Entry→Option Out) (h: ∀ vs es r,F vs es=some r→asa P tbl lf fn vs es=some r):PF P where
 k:=k
 F:=F
 ok:=by
  intro vs es o hv bE mem ρ w hp
  have hc:=h vs es o hv
  unfold asa at hc
  split at hc
  ·rename_i o1 ho1
   cases hc
   refine(ak6 aO hf hl ho1 (aro bE) mem ρ w hp).mono fun e w' ⟨ρ',hx,he,nP,hr,hh⟩=> ?_
   have hl2:(adN es o1.es++o1.new).length=(o1.es++o1.new).length:=by simp only [List.length_append,xf]
   refine⟨ρ',hx,he,by rw [xf];exact nP,by rw [hl2];exact hr,?_⟩
   unfold HpL
   rw [hl2]
   refine Hp.less hh fun id e2 h2=> ?_
   by_cases eO:id < o1.es.length
   ·rw [List.getElem?_append_left (by rw [xf];exact eO)]at h2
    obtain⟨e1,h1,WU⟩:=aj3 h2
    have h1':(o1.es++o1.new)[id]? =some e1:=by rw [List.getElem?_append_left eO];exact h1
    rcases WU with rfl | ⟨T,t,xs,rfl,he0⟩
    ·obtain⟨q1,_,q3⟩:=hh.he id e2 h1'
     exact⟨e2,h1',q1,fun _ h=>h,q3⟩
    ·refine⟨e1,h1',?_,fun b hb=>(by cases hb),trivial⟩
     have:=(hp.he id _ he0).1
     simp only [Entry.holds]at this ⊢
     rw [hx.nm id (by simp only [Nat.blt];exact Nat.ble_eq_true_of_le (by omega))]
     exact Lz.mono hx.old this
   ·rw [List.getElem?_append_right (by rw [xf];omega),xf]at h2
    have h1':(o1.es++o1.new)[id]? =some e2:=by rw [List.getElem?_append_right (by omega)];exact h2
    obtain⟨q1,_,q3⟩:=hh.he id e2 h1'
    exact⟨e2,h1',q1,fun _ h=>h,q3⟩
  ·cases hc
theorem aib{P:Program}{k:FuncId}{e:TypeId}{t:CTy}{v:Value}(q:PF P)(hk:q.k=k){nd:List Bool}
  (hq:q.F [.one ⟨false,[.val v]⟩] []=some ⟨.one ⟨false,[.ref 0]⟩,[],[.row true e t []],nd⟩) (bE: ∀ b∈nd,b=true)
  (mem:Nat→Option Obj) (ρ:Nm) (w:World) (hp:HpL w mem [.row false e t []] ρ w) (hv:ρ 0=v):
  Calls P k ([SV.one ⟨false,[.ref 0]⟩].map (SV.conc ρ)).toArray w fun en w'=> ∃ ρ':Nm,Ext (memB w mem) (fun i=>Nat.blt i 1) ρ ρ'∧en= .returned ((SV.one ⟨false,[.ref 1]⟩).conc ρ')∧
   HpL w mem [.row false e t [],.row true e t []] ρ' w':=by
 subst hk
 have h0:HpL w mem [] ρ w:=⟨fun id en he=>(by simp at he),fun id id' en en' b he=>(by simp at he),hp.hf⟩
 have hc:([SV.one ⟨false,[.ref 0]⟩].map (SV.conc ρ)).toArray=([SV.one ⟨false,[.val v]⟩].map (SV.conc ρ)).toArray:=by
  simp [SV.conc,V1.conc,Cell.conc,hv]
 rw [hc]
 refine(q.ok _ _ _ hq bE mem ρ w h0).mono fun en w' ⟨ρ1,hx,he,_,_,hh⟩=> ?_
 let ρ':Nm:=⟨fun i=>bif Nat.beq i 0 then ρ.nm 0 else ρ1.nm 0,ρ1.mem,fun i=>bif Nat.beq i 0 then ρ.fp 0 else ρ1.fp 0⟩
 have e0:ρ' 0=ρ 0:=rfl
 have e1:ρ' 1=ρ1 0:=rfl
 have hr:=(hp.he 0 _ rfl).1
 obtain⟨⟨cs,g1,g2,g3⟩,_,_⟩:=hh.he 0 _ rfl
 refine⟨ρ',⟨fun i hi=> ?_,hx.old,hx.new⟩,by rw [he];rfl,fun id en2 he2=> ?_,fun id id' en2 en3 b he2 he3 hb hb'=> ?_,?_⟩
 ·have:i=0:=by
   have:i < 1:=Nat.le_of_ble_eq_true hi
   omega
  subst this;rfl
 ·match id,he2 with
  |0,he2=>
   simp at he2;subst he2
   exact⟨Lz.mono hx.old hr,rfl,trivial⟩
  |1,he2=>
   simp at he2;subst he2
   exact⟨⟨cs,g1,g2,g3⟩,rfl,trivial⟩
  |n + 2,he2=>simp at he2
 ·match id,id',he2,he3 with
  |0,_,he2,_=>simp at he2;subst he2;cases hb
  |1,0,_,he3=>simp at he3;subst he3;cases hb'
  |1,1,_,_=>rfl
  |1,n + 2,_,he3=>simp at he3
  |n + 2,_,he2,_=>simp at he2
 ·exact⟨hh.hf.os,hh.hf.tape,hh.hf.output,hh.hf.size,hh.hf.mem,hh.hf.dat,hh.hf.gl⟩
theorem acN{P:Program}{k:FuncId}{e:TypeId}{t:CTy}(p q1 q2:PF P)(hk:p.k=k)(hk1:q1.k=k)(hk2:q2.k=k)
  (h1: ∃ nd,q1.F [.one ⟨false,[.val (.slice none 0 0)]⟩] []=some ⟨.one ⟨false,[.ref 0]⟩,[],[.row true e t []],nd⟩∧ ∀ b∈nd,b=true)
  (h2: ∀ a c,∃ nd,q2.F [.one ⟨false,[.val (.slice (some a) 0 c)]⟩] []=some ⟨.one ⟨false,[.ref 0]⟩,[],[.row true e t []],nd⟩∧ ∀ b∈nd,b=true)
  (xs:List (E t))
  (h3:xs≠ []→ ∃ nd,p.F [.one ⟨false,[.ref 0]⟩] [.row false e t xs]=some ⟨.one ⟨false,[.ref 1]⟩,[.row false e t xs],[.row true e t xs],nd⟩∧ ∀ b∈nd,b=true)
  (mem:Nat→Option Obj) (ρ:Nm) (w:World) (hp:HpL w mem [.row false e t xs] ρ w):
  Calls P k ([SV.one ⟨false,[.ref 0]⟩].map (SV.conc ρ)).toArray w fun en w'=> ∃ ρ':Nm,Ext (memB w mem) (fun i=>Nat.blt i 1) ρ ρ'∧en= .returned ((SV.one ⟨false,[.ref 1]⟩).conc ρ')∧
   HpL w mem [.row false e t xs,.row true e t xs] ρ' w':=by
 by_cases hx:xs= []
 ·subst hx
  rcases Rz (hp.he 0 _ rfl).1 hp.hf.dat with⟨hv,_⟩ | ⟨b,off,cap,news,hv,_⟩
  ·rcases hv with hv | ⟨a,hv⟩
   ·obtain⟨nd,hq,bE⟩:=h1
    exact aib q1 hk1 hq bE mem ρ w hp hv
   ·obtain⟨nd,hq,bE⟩:=h2 a 0
    exact aib q2 hk2 hq bE mem ρ w hp hv
  ·obtain⟨nd,hq,bE⟩:=h2 ⟨b,off,none⟩ cap
   exact aib q2 hk2 hq bE mem ρ w hp hv
 ·subst hk
  obtain⟨nd,hq,bE⟩:=h3 hx
  refine(p.ok _ _ _ hq bE mem ρ w hp).mono fun en w' ⟨ρ1,hx,he,_,_,hh⟩=>⟨ρ1,hx,he,hh⟩
end
end Go.SX
