import Derived.Test.YtbajbgcdcaknpaaGreatDoorTXA
import Derived.Laws.Slices
import Derived.Laws.Tables
import Derived.Laws.StructEq
import Derived.Laws.StandIn
import Derived.Lib.Bytealg
import Derived.Laws.BytesArg
import Derived.Laws.Concat
set_option linter.unusedSimpArgs false
set_option linter.unusedVariables false
namespace Go.SX
open Go.RowKit
section
variable{P:Program}{tr:Bool}{s:St}{look:Nat→Option SS}{ent:Nat→Option Entry}{A:List (Nat×Bool)}{nid:Nat}{o:Oper}{r:Raw}{B:Base}{ρ:Nm}{a:Act}{w:World}{K:Act→World→Prop}{Q:Exit→Act→World→Prop}
theorem alU{isS:Bool}{len cap:Nat}{lo hi:Option Value}{l h:Int}(hlo:(lo=none∧l=0)∨ ∃ k,lo=some (.int k l))(hhi:(hi=none∧h=len)∨ ∃ k,hi=some (.int k h))(h0:0≤l)(h1:l≤h)(h2:h≤len)(h3:len≤cap):
  (Instr.sliceBounds isS len cap lo hi none).run P w= .ok (l.toNat,h.toNat,cap) w:=by
 have e0:0≤h:=by omega
 have e1:h≤(cap:Int):=by omega
 have eh:(h.toNat:Int)=h:=Int.toNat_of_nonneg e0
 rcases hlo with⟨rfl,rfl⟩ | ⟨k,rfl⟩ <;> rcases hhi with⟨rfl,rfl⟩ | ⟨k',rfl⟩ <;>
  simp [Instr.sliceBounds,run_sliceBound,h0,h1,e0,e1,eh]
theorem Nc(c:Ctx B ρ s a w look ent A){x:Option Operand}{d l:Int}(h:bnd look A x d=some l):(x.map a.eval=none∧l=d)∨ ∃ k,x.map a.eval=some (.int k l):=by
 cases x with
 |none=>simp only [bnd,Option.some.injEq]at h;exact .inl ⟨rfl,h.symm⟩
 |some y=>
  simp only [bnd]at h
  obtain⟨k,hk⟩:=c.evI h
  exact .inr ⟨k,by simp [hk]⟩
theorem acv{T e:TypeId}{inf:TypeInfo}{lo hi:Option Value}{l h:Int}{b:Option Addr}{len cap:Nat}(hT:P.underlying T=some (.slice e))(GC:P.info? e=some inf)
  (hlo:(lo=none∧l=0)∨ ∃ k,lo=some (.int k l)) (hhi:(hi=none∧h=len)∨ ∃ k,hi=some (.int k h)) (h0:0≤l) (h1:l≤h) (h2:h≤len) (h3:len≤cap):
  (Instr.sliceAt T (.slice b len cap) lo hi none).run P w= .ok (.slice (if cap=l.toNat then b else b.map (·.add (l.toNat * inf.size))) (h.toNat - l.toNat) (cap - l.toNat)) w:=by
 have:=alU (P:=P) (w:=w) (isS:=true) hlo hhi h0 h1 h2 h3
 simp [Instr.sliceAt,Instr.slice,run_underlying hT,this,sizeOf,typeInfo,GC]
theorem WL.part{H:Nat→Option Obj}{t:CTy}{v:Value}{xs:List (E t)}(h:WL H t v xs){l m z:Nat}(hl:l≤m)(hm:m≤xs.length)(hz:z=t.size){b:Option Addr}{len cap:Nat}(hv:v= .slice b len cap):
  WL H t (.slice (if cap=l then b else b.map (·.add (l * z))) (m - l) (cap - l)) ((xs.take m).drop l):=by
 subst hz
 have tS:((xs.take m).drop l).length=m - l:=by rw [List.length_drop,List.length_take];omega
 rcases h with⟨h,hn⟩ | ⟨b',off,cap',arr,T,fz,h1,h2,h3,h4,h5⟩
 ·subst hn
  simp only [List.length_nil,Nat.le_zero_eq]at hm
  subst hm
  simp only [Nat.le_zero_eq]at hl;subst hl
  rcases h with h | ⟨b',h⟩
  ·rw [hv]at h;cases h
   exact .inl ⟨.inl (by simp),by simp⟩
  ·rw [hv]at h;cases h
   exact .inl ⟨.inr ⟨b',by simp⟩,by simp⟩
 ·rw [hv]at h1;cases h1
  by_cases hc:cap=l
  ·subst hc
   have:m=cap:=by omega
   subst this
   refine .inr ⟨b',off,0,arr,T,fz,by rw [tS];simp,by rw [tS];omega,by omega,h4,fun i x hx=> ?_⟩
   have:=(List.getElem?_eq_some_iff.1 hx).1
   rw [tS]at this;omega
  ·refine .inr ⟨b',off + l * t.size,cap - l,arr,T,fz,by rw [tS];simp [hc,OV],by rw [tS];omega,by omega,h4,fun i x hx=> ?_⟩
   have dd:=(List.getElem?_eq_some_iff.1 hx).1
   rw [List.getElem?_drop,List.getElem?_take,if_pos (by omega)]at hx
   have:=h5 _ _ hx
   rwa [Nat.add_mul,← Nat.add_assoc]at this
theorem aqA{e:TypeId}{t:CTy}{v:Value}{n m z:Nat}{cs:List Value}(h:OD w e t.size v n cs)(hm:m≤n){b:Option Addr}{len cap:Nat}(hv:v= .slice b len cap):
  OD w e t.size (.slice (if cap=0 then b else b.map (·.add (0 * z))) (m - 0) (cap - 0)) m (cs.take (m * t.size))∧
   ka (.slice (if cap=0 then b else b.map (·.add (0 * z))) (m - 0) (cap - 0))=ka v:=by
 have TD:m * t.size≤n * t.size:=Nat.mul_le_mul_right _ hm
 have hl:(cs.take (m * t.size)).length=m * t.size:=by rw [List.length_take,h.1];omega
 rcases h.2 with⟨hz,hn⟩ | ⟨g,cap',cur,h1,h2,h3,h4,h5,h6,h7⟩
 ·subst hn
  have:m=0:=by omega
  subst this
  rcases hz with hz | ⟨b',hz⟩
  ·rw [hv]at hz;cases hz
   exact⟨⟨hl,.inl ⟨.inl (by simp),rfl⟩⟩,by rw [hv];simp⟩
  ·rw [hv]at hz;cases hz
   exact⟨⟨hl,.inl ⟨.inr ⟨b',by simp⟩,rfl⟩⟩,by rw [hv];simp⟩
 ·rw [hv]at h1;cases h1
  have he:(if cap=0 then some (⟨g,0,none⟩:Addr)else(some (⟨g,0,none⟩:Addr)).map (·.add (0 * z)))=some ⟨g,0,none⟩:=by
   split
   ·rfl
   ·simp [OV]
  rw [he]
  refine⟨⟨hl,.inr ⟨g,cap,cur,rfl,h2,h3,by omega,h5,h6,?_⟩⟩,by rw [hv];rfl⟩
  rw [← h7,List.take_take,Nat.min_eq_left TD]
theorem rW.take{H:Nat→Option Obj}{t:CTy}{cs:List Value}{xs:List (E t)}(h:rW H t cs xs){m:Nat}(hm:m≤xs.length):rW H t (cs.take (m * t.size)) (xs.take m):=by
 have TD:m * t.size≤xs.length * t.size:=Nat.mul_le_mul_right _ hm
 refine⟨by rw [List.length_take,List.length_take,h.1];rw [Nat.min_eq_left TD,Nat.min_eq_left hm],fun i x hx=> ?_⟩
 have dd:=(List.getElem?_eq_some_iff.1 hx).1
 rw [List.length_take]at dd
 rw [List.getElem?_take,if_pos (by omega)]at hx
 have:=h.2 i x hx
 have hc:=CT (z:=t.size) (show i < m by omega)
 rw [List.drop_take,List.take_take,Nat.min_eq_left (by omega)]
 exact this
theorem asT(c:Ctx B ρ s a w look ent A){T:TypeId}{x:Operand}{lo hi mx:Option Operand}{fr:Bool}(ho:o.op= .slice T x lo hi mx)(h:au5 P look ent A nid fr T x lo hi mx=some r)(ne: ∀ i∈r.new,s.used i=false)(bz: ∀ b∈r.nd,b=true)(hC:qI B s ρ r o a K):o.wp P a w K Q:=by
 obtain⟨dst,op,ty,pos,after,guard⟩:=o
 simp only at ho;subst ho
 unfold au5 at h
 split at h
 ·rename_i str hx
  split at h
  ·rename_i l m hl hm hT
   cases h
   have h0:0≤l:=by simpa using bz (decide (0≤l)) (by simp)
   have h1:l≤m:=by simpa using bz (decide (l≤m)) (by simp)
   have h2:m≤str.size:=by simpa using bz (decide (m≤str.size)) (by simp)
   have BT:=(c.evC hx).1
   simp only [Cell.conc]at BT
   have hr:=alU (P:=P) (w:=w) (isS:=false) (cap:=str.size) (Nc c hl) (Nc c hm) h0 h1 h2 (Nat.le_refl _)
   refine aV (w':=w) ?_ (qI.same (v:=one (.val (.string (str.extract l.toNat m.toNat)))) rfl hC c.hp)
   simp [execOp,Instr.sliceAt,Instr.slice,run_underlying hT,BT,hr,one,SV.conc,V1.conc,Cell.conc]
  ·cases h
 ·rename_i id hx
  split at h
  ·rename_i own e t xs he
   split at h
   ·rename_i l m hl hm
    cases qJ:YC P T t with
    |false=>simp [qJ]at h
    |true=>
     simp only [qJ,cond_true]at h
     unfold YC at qJ
     split at qJ
     ·rename_i e' hT
      split at qJ
      ·rename_i inf GC
       have WR:=Nat.eq_of_beq_eq_true qJ
       have Uw:=c.hE _ _ he
       obtain⟨hh,mL,_⟩:=c.hp.he _ _ Uw
       have BT:=(c.evC hx).1
       simp only [Cell.conc]at BT
       have hsl: ∃ b cap,ρ id= .slice b xs.length cap∧xs.length≤cap:=by
        rcases ZV hh c.hp.hf.dat with⟨hv,hn⟩ | ⟨b,off,cap,news,hv,_,TD,_⟩
        ·subst hn;obtain⟨b0,hb0⟩:=aff hv;exact⟨b0,0,hb0,Nat.le_refl _⟩
        ·exact⟨_,cap,hv,TD⟩
       obtain⟨b,cap,hv,TD⟩:=hsl
       have hun:s.used nid=false:=by
        split at h <;> cases h <;> exact ne nid (by simp)
       split at h
       ·cases h
        have h1:0≤m:=by simpa using bz (decide (0≤m)) (by simp)
        have h2:m≤xs.length:=by simpa using bz (decide (m≤xs.length)) (by simp)
        have hl0:l=0:=by simpa [bnd] using hl.symm
        subst hl0
        obtain⟨cs,g1,g2,g3⟩:=hh
        have hr:=acv (P:=P) (w:=w) (b:=b) (len:=xs.length) (cap:=cap) (lo:=none) (l:=0) hT GC (.inl ⟨rfl,rfl⟩) (Nc c hm) (Int.le_refl _) h1 h2 TD
        obtain⟨k1,k2⟩:=aqA (w:=w) (z:=inf.size) (m:=m.toNat) g1 (by omega) hv
        have tS:(xs.take m.toNat).length=m.toNat:=by rw [List.length_take];omega
        obtain⟨hX,hp⟩:=c.hp.rowTo (xs':=xs.take m.toNat) Uw hun (Chg.refl _ _) (by rw [tS];exact k1) (g2.take (by omega)) fun b hb=> .inr (by rw [k2]at hb;exact hb)
        refine aV (w':=w) (u:= .slice (if cap=0 then b else b.map (·.add (0 * inf.size))) (m.toNat - 0) (cap - 0)) ?_ (hC _ _ w hX ?_ hp)
        ·simp only [execOp,BT,hv,Option.map_none]
         simp only [Int.toNat_zero]at hr
         simp [hr]
        ·simp only [one,SV.conc,V1.conc,Cell.conc]
         rw [jH _ _ rfl]
       ·rename_i Sg
        cases h
        have h0:0≤l:=by simpa using bz (decide (0≤l)) (by simp)
        have h1:l≤m:=by simpa using bz (decide (l≤m)) (by simp)
        have h2:m≤xs.length:=by simpa using bz (decide (m≤xs.length)) (by simp)
        have hr:=acv (P:=P) (w:=w) (b:=b) (len:=xs.length) (cap:=cap) hT GC (Nc c hl) (Nc c hm) h0 h1 h2 TD
        obtain⟨ρ1,n1,x1,hp1⟩:=c.hp.freezes c.hE [id]
        have hrow:WL ρ1.mem t (ρ1 id) xs:=by
         have:bL s.ent (frz ent [id]) id=some (.row false e t xs):=by
          cases own with
          |true=>simp only [bL,look?_frz_mem (List.mem_singleton.2 rfl) he]
          |false=>
           have:look? (frz ent [id]) id=none:=by simp [frz,he,look?]
           simp only [bL,this];exact Uw
         exact(hp1.he _ _ this).1
        rw [Nm.of_nm n1,hv]at hrow
        have hpart:=hrow.part (l:=l.toNat) (m:=m.toNat) (z:=inf.size) (by omega) (by omega) WR rfl
        obtain⟨hX,hp⟩:=hp1.names (ρ':=upd ρ1 nid (.slice (if cap=l.toNat then b else b.map (·.add (l.toNat * inf.size))) (m.toNat - l.toNat) (cap - l.toNat)))
         (es:= [(nid,.row false e t ((xs.take m.toNat).drop l.toNat))]) (new:= [nid]) (SP hun _ _) rfl fun i x hl=>by
          obtain⟨rfl,rfl⟩:=look?_one hl
          refine⟨?_,by simp [bT,memN],trivial,rfl⟩
          simp only [Entry.holds]
          rw [jH _ _ rfl]
          exact hpart
        rw [LM]at hp
        refine aV (u:= .slice (if cap=l.toNat then b else b.map (·.add (l.toNat * inf.size))) (m.toNat - l.toNat) (cap - l.toNat)) (w':=w) ?_ (hC _ _ w (x1.trans hX fun _ h=>h) ?_ hp)
        ·simp only [execOp,BT,hv]
         simp only [Sem.run_bind,Option.map_none,hr,Result.andThen_ok,Sem.run_pure]
        ·simp only [one,SV.conc,V1.conc,Cell.conc]
         rw [jH _ _ rfl]
      ·cases qJ
     ·cases qJ
   ·cases h
  ·cases h
 ·cases h
end
end Go.SX
namespace Go.SX
open Go.RowKit
section
variable{P:Program}{tr:Bool}{s:St}{look:Nat→Option SS}{ent:Nat→Option Entry}{A:List (Nat×Bool)}{nid:Nat}{o:Oper}{r:Raw}{B:Base}{ρ:Nm}{a:Act}{w:World}{K:Act→World→Prop}{Q:Exit→Act→World→Prop}
theorem arR(off:Nat): ∀ (ns:List Value) (k:Nat) (cells:List Value),off + k + ns.length≤cells.length→
  (ns.zipIdx k).foldl (fun(cs:Array Value) p=>cs.setIfInBounds (off + p.2) p.1) cells.toArray=(cells.take (off + k)++ns++cells.drop (off + k + ns.length)).toArray
 | [],k,cells,h=>by simp
 |x::ns,k,cells,h=>by
  simp only [List.length_cons]at h
  simp only [List.zipIdx_cons,List.foldl_cons,List.setIfInBounds_toArray]
  rw [arR off ns (k + 1) (cells.set (off + k) x) (by rw [List.length_set];omega)]
  congr 1
  have hk:off + k < cells.length:=by omega
  apply List.ext_getElem?
  intro j
  simp only [List.getElem?_append,List.getElem?_take,List.getElem?_drop,List.getElem?_set,List.length_append,List.length_take,List.length_set,List.length_cons]
  rw [Nat.min_eq_left (show off + (k + 1)≤cells.length by omega),Nat.min_eq_left (show off + k≤cells.length by omega)]
  by_cases h1:j < off + k
  ·simp [h1,show j < off + (k + 1) by omega,show ¬ off + k=j by omega,show j < off + (k + 1) + ns.length by omega,show j < off + k + (ns.length + 1) by omega]
  ·by_cases h2:j=off + k
   ·subst h2
    simp [show off + k < off + (k + 1) by omega,hk,show off + k < off + (k + 1) + ns.length by omega]
   ·by_cases h3:j < off + (k + 1) + ns.length
    ·simp [h1,h3,show ¬ j < off + (k + 1) by omega,show j < off + k + (ns.length + 1) by omega]
     rw [show j - (off + k)=j - (off + (k + 1)) + 1 by omega,List.getElem?_cons_succ]
    ·simp [h3,show ¬ j < off + k + (ns.length + 1) by omega,show ¬ off + k=off + (k + 1) + ns.length + (j - (off + (k + 1) + ns.length)) by omega]
     congr 1;omega
theorem aim{pl:Nat→Option (Nat×Nat)}: ∀ {vs:List (Nat×V1)} {cells cs:List Cell},amQ pl cells vs=some cs→
  Instr.fill pl (cells.map (Cell.conc ρ)).toArray (vs.map fun p=>(p.1,p.2.conc ρ))=some (cs.map (Cell.conc ρ)).toArray
 | [],cells,cs,h=>by simp only [amQ,Option.some.injEq]at h;subst h;rfl
 |(i,v)::vs,cells,cs,h=>by
  simp only [amQ]at h
  split at h
  ·rename_i off size ns hp hns
   cases hb:(Nat.beq ns.length size&&Nat.ble (off + ns.length) cells.length)with
   |false=>simp [hb]at h
   |true=>
    simp only [hb,cond_true]at h
    simp only [Bool.and_eq_true]at hb
    have h1:=Nat.eq_of_beq_eq_true hb.1
    have h2:=Nat.le_of_ble_eq_true hb.2
    have hc:=V1.cells?_conc ρ hns
    have ih:=aim h
    simp only [List.map_cons,Instr.fill,hp,hc]
    have WR:(ns.map (Cell.conc ρ)).toArray.size=size:=by simp [h1]
    have TD: ¬ (off + (ns.map (Cell.conc ρ)).toArray.size > (cells.map (Cell.conc ρ)).toArray.size):=by simp;omega
    rw [WR]at TD
    simp only [WR,ne_eq,not_true_eq_false]
    rw [if_neg (by simpa using TD)]
    have hf:=arR off (ns.map (Cell.conc ρ)) 0 (cells.map (Cell.conc ρ)) (by simp;omega)
    rw [← Array.foldl_toList,Array.toList_zipIdx]
    simp only [Nat.add_zero]at hf
    rw [hf]
    simpa [List.map_take,List.map_drop] using ih
  ·cases h
theorem arO{U:Nat→Bool}{pl:Nat→Option (Nat×Nat)}: ∀ {vs:List (Nat×V1)} {cells cs:List Cell},amQ pl cells vs=some cs→(∀ c∈cells,c.inU U)→(∀ p∈vs,p.2.inU U)→ ∀ c∈cs,c.inU U
 | [],cells,cs,h,hc,_=>by simp only [amQ,Option.some.injEq]at h;subst h;exact hc
 |(i,v)::vs,cells,cs,h,hc,hv=>by
  simp only [amQ]at h
  split at h
  ·rename_i off size ns hp hns
   cases hb:(Nat.beq ns.length size&&Nat.ble (off + ns.length) cells.length)with
   |false=>simp [hb]at h
   |true=>
    simp only [hb,cond_true]at h
    refine arO h (fun c hm=> ?_) fun p hp=>hv p (by simp [hp])
    simp only [List.append_assoc,List.mem_append]at hm
    rcases hm with hm | hm | hm
    ·exact hc c (List.mem_of_mem_take hm)
    ·exact V1.cells?_inU (hv (i,v) (by simp)) hns c hm
    ·exact hc c (List.mem_of_mem_drop hm)
  ·cases h
theorem alA(c:Ctx B ρ s a w look ent A): ∀ {xs:List (Nat×Operand)} {vs:List (Nat×V1)},avR look A xs=some vs→(xs.map fun p=>(p.1,a.eval p.2))=(vs.map fun p=>(p.1,p.2.conc ρ))∧ ∀ p∈vs,p.2.inU s.used
 | [],vs,h=>by simp [avR]at h;subst h;simp
 |(i,x)::xs,vs,h=>by
  simp only [avR]at h
  split at h
  ·rename_i v vs' h1 h2
   cases h
   obtain⟨e1,i1⟩:=c.ev1 h1
   obtain⟨e2,i2⟩:=alA c h2
   refine⟨by simp [e1,e2],fun u hu=> ?_⟩
   rcases List.mem_cons.1 hu with rfl | hu
   ·exact i1
   ·exact i2 u hu
  ·cases h
theorem ar0: ∀ (fs:List Field),(fs.all fun fd=>(P.info? fd.type).isSome)=true→ ∃ places,fs.mapM (fun f=>(P.info? f.type).map fun i=>(f.offset,i.size))=some places∧
  ∀ i,places[i]? =ani P fs.toArray i
 | [],_=>⟨[],rfl,fun i=>by simp [ani]⟩
 |f::fs,h=>by
  simp only [List.all_cons,Bool.and_eq_true]at h
  obtain⟨pl,h1,h2⟩:=ar0 fs h.2
  cases hi:P.info? f.type with
  |none=>rw [hi]at h;simp at h
  |some j=>
   refine⟨(f.offset,j.size)::pl,by simp [List.mapM_cons,hi,h1],fun i=> ?_⟩
   cases i with
   |zero=>simp [hi,ani]
   |succ i=>simpa [ani] using h2 i
theorem ask(c:Ctx B ρ s a w look ent A){T:TypeId}{parts:Array (Nat×Operand)}(ho:o.op= .build T parts)(h:auo P tr look A nid T parts=some r)(ne: ∀ i∈r.new,s.used i=false)(hC:qI B s ρ r o a K):o.wp P a w K Q:=by
 obtain⟨dst,op,ty,pos,after,guard⟩:=o
 simp only at ho;subst ho
 unfold auo at h
 split at h
 ·rename_i fs inf vs hT GC hvs
  split at h
  ·rename_i z hz
   split at h
   ·rename_i cs Up
    cases aeo:fs.all (fun fd=>(P.info? fd.type).isSome)with
    |false=>simp [aeo]at h
    |true=>
     simp only [aeo,cond_true]at h
     cases h
     obtain⟨e1,i1⟩:=alA c hvs
     have hfl:=aim (ρ:=ρ) Up
     rw [aen]at hfl
     have Qt:=arO Up (fun c hc=>by obtain⟨v,_,rfl⟩:=List.mem_map.1 hc;trivial) i1
     obtain⟨places,hp1,hp2⟩:=ar0 (P:=P) fs.toList (by rw [← Array.all_toList]at aeo;exact aeo)
     have hpl:(fun i=>places.toArray[i]?)=ani P fs:=by
      funext i
      simp only [List.getElem?_toArray,hp2]
     have hb:P.built T (parts.map fun(i,x)=>(i,a.eval x)).toList=some (cs.map (Cell.conc ρ)).toArray:=by
      simp only [Program.built,GC,hT,hz,hp1,hpl,Array.toList_map]
      rw [show (List.map (fun p:Nat×Operand=>(p.1,a.eval p.2)) parts.toList)=_ from e1]
      exact hfl
     have hr:=run_build (P:=P) w T _ _ hb
     obtain⟨ρ',hX,_,hp,hcc,_⟩:=afA (P:=P) (tr:=tr) (T:=T) (n:=nid) (v:=⟨true,cs⟩) c.hp Qt ne
     refine aV (w':=w) (u:= .agg (cs.map (Cell.conc ρ)).toArray) ?_ (hC ρ' _ w hX hcc.symm hp)
     simp [execOp,hr]
   ·cases h
  ·cases h
 ·cases h
theorem Xg(z:Array Value)(n:Nat):(madeCells z (n * z.size)).toList=ub (List.replicate n z.toList):=by
 have hl: ∀ n,(ub (List.replicate n z.toList)).length=n * z.size:=by
  intro n
  induction n with
  |zero=>simp [ub]
  |succ n ih=>simp only [List.replicate_succ,ub,List.length_append,ih,Array.length_toList,Nat.add_mul,Nat.one_mul];omega
 have hg: ∀ n j,j < n * z.size→(ub (List.replicate n z.toList))[j]? =z.toList[j % z.size]? :=by
  intro n
  induction n with
  |zero=>intro j hj;omega
  |succ n ih=>
   intro j hj
   simp only [List.replicate_succ,ub]
   by_cases dd:j < z.size
   ·rw [List.getElem?_append_left (by simpa using dd),Nat.mod_eq_of_lt dd]
   ·rw [List.getElem?_append_right (by simpa using Nat.le_of_not_lt dd),Array.length_toList,ih _ (by rw [Nat.add_mul,Nat.one_mul]at hj;omega),← Nat.mod_eq_sub_mod (Nat.le_of_not_lt dd)]
 apply List.ext_getElem?
 intro j
 by_cases hj:j < n * z.size
 ·rw [hg n j hj]
  have hp:0 < z.size:=by
   rcases Nat.eq_zero_or_pos z.size with h0 | h0
   ·rw [h0]at hj;omega
   ·exact h0
  have hm:=Nat.mod_lt j hp
  simp [madeCells,hj,hm,getElem!_pos]
 ·rw [List.getElem?_eq_none (by rw [Array.length_toList,size_madeCells];omega),List.getElem?_eq_none (by rw [hl];omega)]
theorem rW.replicate{H:Nat→Option Obj}{t:CTy}{cs:List Value}{x:E t}(h:Rep H t cs x): ∀ n,rW H t (ub (List.replicate n cs)) (List.replicate n x)
 |0=>rW.nil _ _
 |n + 1=>by
  simp only [List.replicate_succ,ub]
  exact(rW.one h).append (rW.replicate h n)
theorem Rep.any{H H':Nat→Option Obj}(h: ∀ b o,H b=some o→H' b=some o){t:CTy}{cs:List Value}{x:E t}(hr:Rep H t cs x):Rep H' t cs x:=Rep.mono h t cs x hr
theorem awc{H:Nat→Option Obj}{t:CTy}{c:Cell}{xs:List (E t)}{ids:List Nat}(h:aw0 (fun _=>none) t c=some (xs,ids)):WL H t (c.conc ρ) xs:=by
 unfold aw0 at h
 split at h
 ·cases h
 ·cases h;exact .inl ⟨.inl rfl,rfl⟩
 ·cases h
theorem alw{H:Nat→Option Obj}: ∀ (t:CTy) (cs:List Cell) (x:E t) (ids:List Nat),OW (fun _=>none) t cs=some (x,ids)→Rep H t (cs.map (Cell.conc ρ)) x
 | .int k,cs,x,ids,hc=>by
  simp only [OW]at hc
  unfold av1 at hc
  split at hc
  ·split at hc
   ·rename_i hk;subst hk
    cases hc
    exact rfl
   ·cases hc
  ·cases hc
 | .bool,cs,x,ids,hc=>by
  simp only [OW]at hc
  unfold arJ at hc
  split at hc
  ·cases hc;exact rfl
  ·cases hc
 | .str,cs,x,ids,hc=>by
  simp only [OW]at hc
  unfold awk at hc
  split at hc
  ·cases hc;exact rfl
  ·cases hc
 | .sl e t,cs,x,ids,hc=>by
  simp only [OW]at hc
  unfold slC at hc
  split at hc
  ·simp only [Rep]
   exact⟨_,rfl,awc hc⟩
  ·cases hc
 | .pair a b,cs,x,ids,hc=>by
  simp only [OW]at hc
  split at hc
  ·rename_i x1 l1 y1 m1 h1 h2
   cases hc
   simp only [Rep]
   refine⟨(cs.take a.size).map (Cell.conc ρ),(cs.drop a.size).map (Cell.conc ρ),?_,alw a _ _ _ h1,alw b _ _ _ h2⟩
   rw [← List.map_append,List.take_append_drop]
  ·cases hc
end
end Go.SX
namespace Go.SX
open Go.RowKit
section
variable{P:Program}{tr:Bool}{s:St}{look:Nat→Option SS}{ent:Nat→Option Entry}{A:List (Nat×Bool)}{nid:Nat}{o:Oper}{r:Raw}{B:Base}{ρ:Nm}{a:Act}{w:World}{K:Act→World→Prop}{Q:Exit→Act→World→Prop}
theorem amY{α:Type}: ∀ (l r:List (List α)),ub (l++r)=ub l++ub r
 | [],r=>rfl
 |a::l,r=>by simp only [List.cons_append,ub,amY l r,List.append_assoc]
theorem wy{α:Type}(z:List α): ∀ n,(ub (List.replicate n z)).length=n * z.length
 |0=>by simp [ub]
 |n + 1=>by simp only [List.replicate_succ,ub,List.length_append,wy z n,Nat.add_mul,Nat.one_mul];omega
theorem Yb{α:Type}(z:List α){n m:Nat}(h:n≤m):(ub (List.replicate m z)).take (n * z.length)=ub (List.replicate n z):=by
 obtain⟨k,rfl⟩: ∃ k,m=n + k:=⟨m - n,by omega⟩
 rw [← List.replicate_append_replicate,amY,List.take_append_of_le_length (by rw [wy];exact Nat.le_refl _),List.take_of_length_le (by rw [wy];exact Nat.le_refl _)]
theorem arV{α β:Type}(f:α→β): ∀ (l:List (List α)),(ub l).map f=ub (l.map (List.map f))
 | []=>rfl
 |a::l=>by simp only [ub,List.map_append,List.map_cons,arV f l]
theorem an8(c:Ctx B ρ s a w look ent A){T:TypeId}{l m:Operand}(ho:o.op= .makeSlice T l m)(h:alH P tr look A nid T l m=some r)(ne: ∀ i∈r.new,s.used i=false)(bz: ∀ b∈r.nd,b=true)(hC:qI B s ρ r o a K):o.wp P a w K Q:=by
 obtain⟨dst,op,ty,pos,after,guard⟩:=o
 simp only at ho;subst ho
 unfold alH at h
 split at h
 ·rename_i n k e hl hm hT
  split at h
  ·rename_i inf t GC ht
   split at h
   ·rename_i z hz
    split at h
    ·rename_i x0 ids hcl
     cases qJ:(Nat.beq inf.size t.size&&Nat.beq z.cells.size t.size)with
     |false=>simp [qJ]at h
     |true=>
      simp only [qJ,cond_true]at h
      simp only [Bool.and_eq_true]at qJ
      have k1:=Nat.eq_of_beq_eq_true qJ.1
      have k2:=Nat.eq_of_beq_eq_true qJ.2
      cases htr:(tr&& !t.flat)with
      |true=>
       rw [htr]at h
       simp only [cond_true]at h
       split at h
       ·rename_i y0 ids' hcl'
        cases h
        have n0:0≤n:=by simpa using bz (decide (0≤n)) (by simp)
        have n1:n≤k:=by simpa using bz (decide (n≤k)) (by simp)
        have n2:(inf.bytes:Int) * k≤281474976710656:=by simpa using bz (decide ((inf.bytes:Int) * k≤281474976710656)) (by simp)
        have n3:k≤9223372036854775807:=by simpa using bz (decide (k≤9223372036854775807)) (by simp)
        obtain⟨kl,hlv⟩:=c.evI hl
        obtain⟨kc,hmv⟩:=c.evI hm
        have hr:=run_make (P:=P) w T e inf z hT GC hz kl kc n k n0 n1 n2 n3
        have GG:=ati (w':=w) c.hp hcl'
        rw [aen]at GG
        have tS:(List.replicate n.toNat y0).length=n.toNat:=by simp
        have hcells:(madeCells z.cells (k.toNat * inf.size)).toList.take (n.toNat * t.size)=ub (List.replicate n.toNat z.cells.toList):=by
         rw [k1,← k2,Xg]
         have:=Yb z.cells.toList (n:=n.toNat) (m:=k.toNat) (by omega)
         rwa [Array.length_toList]at this
        have vP:(w.alloc (.cells (madeCells z.cells (k.toNat * inf.size)) e)).ownsRow 0 e t.size (.slice (some ⟨w.heap.size,0,none⟩) n.toNat k.toNat) (List.replicate n.toNat y0).length (ub (List.replicate n.toNat z.cells.toList)):=by
         rw [tS]
         refine⟨by rw [wy,Array.length_toList,k2],.inr ⟨w.heap.size,k.toNat,_,rfl,Nat.zero_le _,heap_alloc_new w _,by omega,Kh (by omega),by rw [size_madeCells,k1],hcells⟩⟩
        have hT: ∀ m:Nat,aag w ρ t (ub (List.replicate m z.cells.toList)) (List.replicate m y0) (List.replicate m []) none:=by
         intro m
         induction m with
         |zero=>exact aag.nil _ _ _
         |succ m ih=>
          rw [List.replicate_succ,List.replicate_succ,List.replicate_succ]
          exact(aag.one1 GG).append ih (by simpa using GG.length) (fun b hb=>by simp [qU]at hb)
        obtain⟨ρ',hv,hX,hp⟩:=c.hp.treeNew (nid:=nid) (G:= []) (ne nid (by simp)) (World.grownBy_alloc w _ none) (XB vP) (hT _) (fun g hg=>by cases hg) (fun b hb=>Nat.le_of_eq (aah hb).symm) (fun b hb=>by rw [ap6]at hb;cases hb)
        refine aV ?_ (hC ρ' (.slice (some ⟨w.heap.size,0,none⟩) n.toNat k.toNat) _ hX ?_ hp)
        ·simp [execOp,hlv,hmv,hr]
        ·simp only [one,SV.conc,V1.conc,Cell.conc]
         exact hv.symm
       ·cases h
      |false=>
      rw [htr]at h
      simp only [cond_false]at h
      cases h
      have n0:0≤n:=by simpa using bz (decide (0≤n)) (by simp)
      have n1:n≤k:=by simpa using bz (decide (n≤k)) (by simp)
      have n2:(inf.bytes:Int) * k≤281474976710656:=by simpa using bz (decide ((inf.bytes:Int) * k≤281474976710656)) (by simp)
      have n3:k≤9223372036854775807:=by simpa using bz (decide (k≤9223372036854775807)) (by simp)
      obtain⟨kl,hlv⟩:=c.evI hl
      obtain⟨kc,hmv⟩:=c.evI hm
      have hr:=run_make (P:=P) w T e inf z hT GC hz kl kc n k n0 n1 n2 n3
      have GG:=alw (ρ:=ρ) (H:=ρ.mem) t _ _ _ hcl
      rw [aen]at GG
      have tS:(List.replicate n.toNat x0).length=n.toNat:=by simp
      have hcells:(madeCells z.cells (k.toNat * inf.size)).toList.take (n.toNat * t.size)=ub (List.replicate n.toNat z.cells.toList):=by
       rw [k1,← k2,Xg]
       have:=Yb z.cells.toList (n:=n.toNat) (m:=k.toNat) (by omega)
       rwa [Array.length_toList]at this
      have vP:(w.alloc (.cells (madeCells z.cells (k.toNat * inf.size)) e)).ownsRow 0 e t.size (.slice (some ⟨w.heap.size,0,none⟩) n.toNat k.toNat) (List.replicate n.toNat x0).length (ub (List.replicate n.toNat z.cells.toList)):=by
       rw [tS]
       refine⟨by rw [wy,Array.length_toList,k2],.inr ⟨w.heap.size,k.toNat,_,rfl,Nat.zero_le _,heap_alloc_new w _,by omega,Kh (by omega),by rw [size_madeCells,k1],hcells⟩⟩
      obtain⟨hX,hp⟩:=c.hp.rowNew (nid:=nid) (ne nid (by simp)) (World.grownBy_alloc w _ none) (XB vP) (rW.replicate GG _) (fun b hb=>Nat.le_of_eq (aah hb).symm)
      refine aV ?_ (hC _ (.slice (some ⟨w.heap.size,0,none⟩) n.toNat k.toNat) _ hX ?_ hp)
      ·simp [execOp,hlv,hmv,hr]
      ·simp only [one,SV.conc,V1.conc,Cell.conc]
       rw [jH _ _ rfl]
    ·cases h
   ·cases h
  ·cases h
 ·cases h
theorem amK{ent e0:Nat→Option Entry}{used:Nat→Bool}(hs: ∀ id e,e0 id=some e→ent id=some e){l:List Nat}(h:Hp B ρ (bL ent (frz e0 l)) used w){t:CTy}: ∀ {n:Nat} {cs:List Cell} {xs:List (E t)} {ids:List Nat},anR e0 t cs n=some (xs,ids)→(∀ id∈ids,id∈l)→
  rW ρ.mem t (cs.map (Cell.conc ρ)) xs∧xs.length=n
 |0,[],xs,ids,hc,_=>by simp [anR]at hc;obtain⟨rfl,_⟩:=hc;exact⟨rW.nil _ _,rfl⟩
 |0,_::_,xs,ids,hc,_=>by simp [anR]at hc
 |n + 1,cs,xs,ids,hc,hl=>by
  simp only [anR]at hc
  split at hc
  ·rename_i x1 l1 ys m1 h1 h2
   cases hc
   have a1:=acm hs h t _ _ _ h1 fun i hi=>hl i (by simp [hi])
   obtain⟨a2,a3⟩:=amK hs h h2 fun i hi=>hl i (by simp [hi])
   refine⟨?_,by simp [a3]⟩
   have:=(rW.one a1).append a2
   rw [← List.map_append,List.take_append_drop]at this
   exact this
  ·cases hc
theorem afM: ∀ {L:List Nat},afL L=true→L.Nodup
 | [],_=>List.nodup_nil
 |i::r,h=>by
  simp only [afL,Bool.and_eq_true,Bool.not_eq_true']at h
  refine List.nodup_cons.2 ⟨fun hm=> ?_,afM h.2⟩
  rw [memN_mem.2 hm]at h;cases h.1
theorem amJ(c:Ctx B ρ s a w look ent A){T:TypeId}{len:Nat}{parts:Array (Nat×Operand)}(ho:o.op= .buildSlice T len parts)(h:aii P tr look ent A nid T len parts=some r)(ne: ∀ i∈r.new,s.used i=false)(hC:qI B s ρ r o a K):o.wp P a w K Q:=by
 obtain⟨dst,op,ty,pos,after,guard⟩:=o
 simp only at ho;subst ho
 unfold aii at h
 split at h
 ·rename_i e vs hT hvs
  split at h
  ·rename_i inf t GC ht
   split at h
   ·rename_i z hz
    split at h
    ·rename_i cs Up
     have hrun: ∀ (cs0:List Cell),cs0=cs→Nat.beq inf.size t.size=true→Nat.beq z.cells.size t.size=true→Nat.ble (len * t.size) 16777216=true→
       (Instr.buildSlice T len (parts.map fun(i,x)=>(i,a.eval x))).run P w= .ok (.slice (some ⟨w.heap.size,0,none⟩) len len) (w.alloc (.cells (cs.map (Cell.conc ρ)).toArray e)):=by
      intro cs0 _ k1 k2 k3
      have k1:=Nat.eq_of_beq_eq_true k1
      have k2:=Nat.eq_of_beq_eq_true k2
      have k3:=Nat.le_of_ble_eq_true k3
      obtain⟨e1,i1⟩:=alA c hvs
      have hfl:=aim (ρ:=ρ) Up
      rw [arV,List.map_replicate,aen,← Xg,Array.toArray_toList,k2]at hfl
      rw [← e1]at hfl
      have hz0: ∀ zz:Array Value,(zz=z.cells∨len * t.size=0)→(Array.range (len * t.size)).map (zz[· % zz.size]!)=madeCells z.cells (len * t.size):=by
       intro zz hzz
       rcases hzz with rfl | h0
       ·rfl
       ·rw [h0];simp [madeCells]
      by_cases h0:len * t.size=0
      ·have hq:=hz0 #[] (.inr h0)
       simp [Instr.buildSlice,run_underlying hT,sizeOf,typeInfo,GC,k1,h0]
       rw [h0]at hq hfl
       simp at hq
       rw [hq]
       simp [hfl,newRow]
      ·simp [Instr.buildSlice,run_underlying hT,sizeOf,typeInfo,zeroValue,GC,hz,k1,show ¬ 16777216 < len * t.size by omega,h0]
       have hq:=hz0 z.cells (.inl rfl)
       rw [hq]
       simp [hfl,newRow]
     cases htr:(tr&& !t.flat)with
     |true=>
      rw [htr]at h
      simp only [cond_true]at h
      split at h
      ·rename_i xs l hcl
       cases qJ:(Nat.beq inf.size t.size&&Nat.beq z.cells.size t.size&&Nat.ble (len * t.size) 16777216&&afL (qU l))with
       |false=>simp [qJ]at h
       |true=>
        simp only [qJ,cond_true]at h
        cases h
        simp only [Bool.and_eq_true]at qJ
        obtain⟨⟨⟨k1,k2⟩,k3⟩,k4⟩:=qJ
        have hr:=hrun cs rfl k1 k2 k3
        have k3:=Nat.le_of_ble_eq_true k3
        have hp0:Hp B ρ ent s.used w:=⟨fun id e he=>c.hp.he id e (c.hE _ _ he),fun id id' e e' b he he'=>c.hp.hi id id' e e' b (c.hE _ _ he) (c.hE _ _ he'),c.hp.hf⟩
        obtain⟨Ls,t1,t2,t3,t4,t5⟩:=akG hp0 hcl (afM k4)
        have WR:((cs.map (Cell.conc ρ)).toArray).size=len * t.size:=by rw [List.size_toArray,List.length_map,t5]
        have hm:len≤maxLen:=by
         refine Kh ?_
         have:=Nat.le_mul_of_pos_right len (HG t)
         omega
        have vP:=World.ownsRow_lit (base:=0) (size:=t.size) (e:=e) w (cs.map (Cell.conc ρ)).toArray len (Nat.zero_le _) hm WR
        rw [← t4,List.toList_toArray]at vP
        have hun:s.used nid=false:=ne nid (by simp)
        obtain⟨ρ',hv,hX,hp⟩:=c.hp.treeNew (nid:=nid) (G:=qU l) hun (World.grownBy_alloc w _ none) (XB vP) t1 (fun g hg=>by
         obtain⟨e0,he0⟩:=t3 g hg
         exact(hp0.he g e0 he0).2.1) (fun b hb=>Nat.le_of_eq (aah hb).symm) (fun b hb=>by
         obtain⟨k,l0,hl0,hb0⟩:=oy.1 hb
         obtain⟨ids,hids,i,hi,e0,he0,hb1⟩:=t2 k l0 hl0 b hb0
         exact⟨i,oy.2 ⟨k,ids,hids,hi⟩,e0,c.hE _ _ he0,hb1⟩)
        rw [t4]at hv
        refine aV ?_ (hC ρ' (.slice (some ⟨w.heap.size,0,none⟩) len len) _ hX ?_ hp)
        ·simp only [execOp]
         simp [hr]
        ·simp only [one,SV.conc,V1.conc,Cell.conc]
         exact hv.symm
      ·cases h
     |false=>
     rw [htr]at h
     simp only [cond_false]at h
     split at h
     ·rename_i xs l hcl
      cases qJ:(Nat.beq inf.size t.size&&Nat.beq z.cells.size t.size&&Nat.ble (len * t.size) 16777216)with
      |false=>simp [qJ]at h
      |true=>
       simp only [qJ,cond_true]at h
       cases h
       simp only [Bool.and_eq_true]at qJ
       obtain⟨⟨k1,k2⟩,k3⟩:=qJ
       have hr:=hrun cs rfl k1 k2 k3
       have k3:=Nat.le_of_ble_eq_true k3
       obtain⟨ρ1,n1,x1,hp1⟩:=c.hp.freezes c.hE l
       obtain⟨GG,tS⟩:=amK c.hE hp1 hcl fun i hi=>hi
       rw [aoW n1]at GG
       have WR:((cs.map (Cell.conc ρ)).toArray).size=len * t.size:=by rw [List.size_toArray,GG.1,tS]
       have hm:len≤maxLen:=by
        refine Kh ?_
        have:=Nat.le_mul_of_pos_right len (HG t)
        omega
       have vP:=World.ownsRow_lit (base:=0) (size:=t.size) (e:=e) w (cs.map (Cell.conc ρ)).toArray len (Nat.zero_le _) hm WR
       rw [← tS,List.toList_toArray]at vP
       have hun:s.used nid=false:=ne nid (by simp)
       obtain⟨hX,hp⟩:=hp1.rowNew (nid:=nid) hun (World.grownBy_alloc w _ none) (XB vP) GG (fun b hb=>Nat.le_of_eq (aah hb).symm)
       rw [LM]at hp
       rw [tS]at hX hp
       refine aV ?_ (hC _ (.slice (some ⟨w.heap.size,0,none⟩) len len) _ (x1.trans hX fun _ h=>h) ?_ hp)
       ·simp only [execOp]
        simp [hr]
       ·simp only [one,SV.conc,V1.conc,Cell.conc]
        rw [jH _ _ rfl]
     ·cases h
    ·cases h
   ·cases h
  ·cases h
 ·cases h
end
end Go.SX
namespace Go.SX
open Go.RowKit
def Cell.ids:Cell→List Nat
 | .val _=> []
 | .ptr id _=> [id]
 | .ref id=> [id]
 | .el id _ _ _=> [id]
 | .vw id _ _=> [id]
 | .clo _ caps=>caps
def V1.ids(v:V1):List Nat:=ub (v.cs.map Cell.ids)
def SV.ids:SV→List Nat
 | .one v=>v.ids
 | .tup vs=>ub (vs.map V1.ids)
def Entry.ids:Entry→List Nat
 | .box _ cs=>ub (cs.map Cell.ids)
 | .tree _ _ _ (some (_,cs))=>ub (cs.map Cell.ids)
 |_=> []
def anL(acc:List Nat):List Nat→List Nat
 | []=>acc
 |i::r=>bif memN acc i then anL acc r else anL (acc++ [i]) r
def ail(ent:Nat→Option Entry)(i:Nat):List Nat:=
 match ent i with
 |some e=>e.ids
 |none=> []
def acs(ent:Nat→Option Entry):Nat→List Nat→List Nat
 |0,l=>l
 |f + 1,l=>acs ent f (anL l (ub (l.map (ail ent))))
def QK{α β:Type}(f:α→Option β):List α→Option (List β)
 | []=>some []
 |a::r=>match f a,QK f r with
  |some b,some bs=>some (b::bs)
  |_,_=>none
def aa5:List Nat→Nat→Option Nat
 | [],_=>none
 |p::r,i=>bif Nat.beq p i then some 0 else(aa5 r i).map (· + 1)
def Cell.ren(f:Nat→Option Nat):Cell→Option Cell
 | .val v=>some (.val v)
 | .ptr id off=>(f id).map (Cell.ptr · off)
 | .ref id=>(f id).map .ref
 | .el id z i off=>(f id).map (Cell.el · z i off)
 | .vw id z k=>(f id).map (Cell.vw · z k)
 | .clo k caps=>(QK f caps).map (.clo k)
def V1.ren(f:Nat→Option Nat)(v:V1):Option V1:=(QK (Cell.ren f) v.cs).map (V1.mk v.agg)
def SV.ren(f:Nat→Option Nat):SV→Option SV
 | .one v=>(v.ren f).map .one
 | .tup vs=>(QK (V1.ren f) vs).map .tup
def Entry.ren(f:Nat→Option Nat):Entry→Option Entry
 | .box T cs=>(QK (Cell.ren f) cs).map (.box T)
 | .row own e t xs=>some (.row own e t xs)
 | .tree e t xs none=>some (.tree e t xs none)
 | .tree e t xs (some (k,cs))=>(QK (Cell.ren f) cs).map fun c=> .tree e t xs (some (k,c))
 | .gone=>some .gone
def aiL:List Nat→Bool
 | []=>true
 |i::r=> !memN r i&&aiL r
def aoN(L:List Nat)(j:Nat):Option Nat:=L[j]?
def afg(ent:Nat→Option Entry):List Nat→List Entry→List (Nat×Entry)
 |i::r,e::es=>match ent i with
  |some (.row false _ _ _)=>afg ent r es
  |_=>(i,e)::afg ent r es
 |_,_=> []
def apE(ent:Nat→Option Entry)(kp:List Nat)(n:Nat):Nat→List Nat→List Entry→List (Nat×Entry)
 |j,i::r,e::es=>match ent i with
  |some (.row false _ _ _)=>apE ent kp n (j + 1) r es
  |_=>bif Nat.blt j n&&memN kp j then apE ent kp n (j + 1) r es else(i,e)::apE ent kp n (j + 1) r es
 |_,_,_=> []
def atQ(ent:Nat→Option Entry)(L:List Nat)(i:Nat):Option Entry:=
 match ent i with
 |some e=>e.ren (aa5 L)
 |none=>none
def avp{P:Program}(tbl:List (PF P))(ent:Nat→Option Entry)(nid:Nat)(k:FuncId)(args:List SV)(L:List Nat):Option Raw:=
 match QK (SV.ren (aa5 L)) args,QK (atQ ent L) L with
 |some args',some es'=>match afy tbl k args' es' with
  |some (out,kp)=>
   let ns:=be nid out.new.length
   match out.res.ren (aoN (L++ns)),QK (Entry.ren (aoN (L++ns))) (out.es++out.new)with
   |some v,some es=>bif aiL L then some ⟨v,apE ent kp L.length 0 (L++ns) es,ns,out.nd⟩else none
   |_,_=>none
  |none=>none
 |_,_=>none
def av5(P:Program)(k:FuncId):Bool:=
 match P.funcs[k]? with
 |some fn=> !(fn.name== "runtime.NumGoroutine")&& !fn.body.isNone
 |none=>false
def ate(caps:List Nat):List SV:=caps.map fun id=>one (.ptr id 0)
def aws(P:Program)(tbl:List (PF P))(look:Nat→Option SS)(ent:Nat→Option Entry)(A:List (Nat×Bool))(nid:Nat)(f:Operand)(args:List Operand):Option Raw:=
 match evC look A f,evs look A args with
 |some (.val (.func (.func k) fi ca)),some vs=>match fi.toList,ca.toList with
  | [],[]=>bif av5 P k then avp tbl ent nid k vs (acs ent 4 (anL [] (ub (vs.map SV.ids))))else none
  |_,_=>none
 |some (.clo k caps),some vs=>bif av5 P k then avp tbl ent nid k (vs++ate caps) (acs ent 4 (anL [] (ub ((vs++ate caps).map SV.ids))))else none
 |_,_=>none
theorem MM{α β:Type}{f:α→Option β}: ∀ {l:List α} {r:List β},QK f l=some r→r.length=l.length∧ ∀ (i:Nat),(∀ y,r[i]? =some y→ ∃ x,l[i]? =some x∧f x=some y)
 | [],r,h=>by simp [QK]at h;subst h;simp
 |a::l,r,h=>by
  simp only [QK]at h
  split at h
  ·rename_i b bs h1 h2
   cases h
   obtain⟨e1,e2⟩:=MM h2
   refine⟨by simp [e1],fun i y hy=> ?_⟩
   cases i with
   |zero=>simp at hy;subst hy;exact⟨a,rfl,h1⟩
   |succ i=>simp at hy;simpa using e2 i y hy
  ·cases h
theorem MN{α β γ:Type}{f:α→Option β}{g:β→γ}{h:α→γ}: ∀ {l:List α} {r:List β},QK f l=some r→(∀ x∈l,∀ y,f x=some y→g y=h x)→r.map g=l.map h
 | [],r,he,_=>by simp [QK]at he;subst he;rfl
 |a::l,r,he,hg=>by
  simp only [QK]at he
  split at he
  ·rename_i b bs h1 h2
   cases he
   simp only [List.map_cons,hg a (by simp) b h1,MN h2 fun x hx=>hg x (by simp [hx])]
  ·cases he
theorem FJ{α β:Type}{f:α→Option β}{p:β→Prop}: ∀ {l:List α} {r:List β},QK f l=some r→(∀ x∈l,∀ y,f x=some y→p y)→ ∀ y∈r,p y
 | [],r,he,_=>by simp [QK]at he;subst he;simp
 |a::l,r,he,hg=>by
  simp only [QK]at he
  split at he
  ·rename_i b bs h1 h2
   cases he
   intro y hy
   rcases List.mem_cons.1 hy with rfl | hy
   ·exact hg a (by simp) _ h1
   ·exact FJ h2 (fun x hx=>hg x (by simp [hx])) y hy
  ·cases he
section
variable{f:Nat→Option Nat}{U U':Nat→Bool}{ρ ρ':Nm}
theorem Cell.ren_conc(hf: ∀ i j,U i=true→f i=some j→ρ' j=ρ i){c c':Cell}(hc:c.inU U)(h:c.ren f=some c'):c'.conc ρ'=c.conc ρ:=by
 cases c with
 |val v=>simp [Cell.ren]at h;subst h;rfl
 |ptr id off=>
  simp only [Cell.ren,Option.map_eq_some_iff]at h
  obtain⟨j,hj,rfl⟩:=h
  simp only [Cell.conc,hf id j hc hj]
 |ref id=>
  simp only [Cell.ren,Option.map_eq_some_iff]at h
  obtain⟨j,hj,rfl⟩:=h
  simp only [Cell.conc,hf id j hc hj]
 |el id z i off=>
  simp only [Cell.ren,Option.map_eq_some_iff]at h
  obtain⟨j,hj,rfl⟩:=h
  simp only [Cell.conc,hf id j hc hj]
 |vw id z k=>
  simp only [Cell.ren,Option.map_eq_some_iff]at h
  obtain⟨j,hj,rfl⟩:=h
  simp only [Cell.conc,hf id j hc hj]
 |clo k caps=>
  simp only [Cell.ren,Option.map_eq_some_iff]at h
  obtain⟨js,hj,rfl⟩:=h
  simp only [Cell.conc]
  rw [MN hj fun x hx y hy=>by rw [hf x y (hc x hx) hy]]
theorem Cell.ren_inU(hf: ∀ i j,f i=some j→U' j=true){c c':Cell}(h:c.ren f=some c'):c'.inU U':=by
 cases c with
 |val v=>simp [Cell.ren]at h;subst h;trivial
 |ptr id off=>
  simp only [Cell.ren,Option.map_eq_some_iff]at h
  obtain⟨j,hj,rfl⟩:=h
  exact hf id j hj
 |ref id=>
  simp only [Cell.ren,Option.map_eq_some_iff]at h
  obtain⟨j,hj,rfl⟩:=h
  exact hf id j hj
 |el id z i off=>
  simp only [Cell.ren,Option.map_eq_some_iff]at h
  obtain⟨j,hj,rfl⟩:=h
  exact hf id j hj
 |vw id z k=>
  simp only [Cell.ren,Option.map_eq_some_iff]at h
  obtain⟨j,hj,rfl⟩:=h
  exact hf id j hj
 |clo k caps=>
  simp only [Cell.ren,Option.map_eq_some_iff]at h
  obtain⟨js,hj,rfl⟩:=h
  exact FJ hj fun x _ y hy=>hf x y hy
theorem V1.ren_conc(hf: ∀ i j,U i=true→f i=some j→ρ' j=ρ i){v v':V1}(hc:v.inU U)(h:v.ren f=some v'):v'.conc ρ'=v.conc ρ:=by
 obtain⟨g,cs⟩:=v
 simp only [V1.ren,Option.map_eq_some_iff]at h
 obtain⟨cs',Up,rfl⟩:=h
 have hm:cs'.map (Cell.conc ρ')=cs.map (Cell.conc ρ):=MN Up fun x hx y hy=>Cell.ren_conc hf (hc x hx) hy
 simp only [V1.conc]
 cases g with
 |true=>simp only [hm]
 |false=>
  have hl:=congrArg List.length hm
  simp only [List.length_map]at hl
  cases cs with
  |nil=>rw [List.eq_nil_of_length_eq_zero hl]
  |cons x xr=>
   cases cs' with
   |nil=>cases hl
   |cons y yr=>
    cases xr with
    |nil=>
     cases yr with
     |nil=>simpa using hm
     |cons _ _=>simp at hl
    |cons _ _=>
     cases yr with
     |nil=>simp at hl
     |cons _ _=>rfl
theorem SV.ren_conc(hf: ∀ i j,U i=true→f i=some j→ρ' j=ρ i){v v':SV}(hc:v.inU U)(h:v.ren f=some v'):v'.conc ρ'=v.conc ρ:=by
 cases v with
 |one v=>
  simp only [SV.ren,Option.map_eq_some_iff]at h
  obtain⟨u,hu,rfl⟩:=h
  exact V1.ren_conc hf hc hu
 |tup vs=>
  simp only [SV.ren,Option.map_eq_some_iff]at h
  obtain⟨u,hu,rfl⟩:=h
  simp only [SV.conc]
  rw [MN hu fun x hx y hy=>V1.ren_conc hf (hc x hx) hy]
end
theorem HF: ∀ {L:List Nat} {i j:Nat},aa5 L i=some j→L[j]? =some i
 | [],i,j,h=>by simp [aa5]at h
 |p::r,i,j,h=>by
  simp only [aa5]at h
  cases hb:Nat.beq p i with
  |true=>simp [hb]at h;subst h;simp [Nat.eq_of_beq_eq_true hb]
  |false=>
   simp only [hb,cond_false,Option.map_eq_some_iff]at h
   obtain⟨k,hk,rfl⟩:=h
   simpa using HF hk
theorem aiM: ∀ {L:List Nat},aiL L=true→L.Nodup
 | [],_=>List.nodup_nil
 |i::r,h=>by
  simp only [aiL,Bool.and_eq_true,Bool.not_eq_true']at h
  refine List.nodup_cons.2 ⟨fun hm=> ?_,aiM h.2⟩
  rw [memN_mem.2 hm]at h;cases h.1
theorem aof{L:List Nat}(hn:L.Nodup){j j' i:Nat}(h:L[j]? =some i)(h':L[j']? =some i):j=j':=
 (List.getElem?_inj (List.getElem?_eq_some_iff.1 h).1 hn).1 (h.trans h'.symm)
def axG(ent:Nat→Option Entry)(i:Nat):Prop:= ∀ e t xs,ent i≠some (.row false e t xs)
theorem aoK{ent:Nat→Option Entry}: ∀ {L:List Nat} {es:List Entry} {i:Nat} {e:Entry},look? (afg ent L es) i=some e→ ∃ j:Nat,L[j]? =some i∧es[j]? =some e
 | [],es,i,e,h=>by simp [afg,look?]at h
 |_::_,[],i,e,h=>by simp [afg,look?]at h
 |k::r,x::es,i,e,h=>by
  simp only [afg]at h
  split at h
  ·obtain⟨j,h1,h2⟩:=aoK h;exact⟨j + 1,by simpa using h1,by simpa using h2⟩
  ·simp only [look?]at h
   cases hb:Nat.beq k i with
   |true=>simp [hb]at h;subst h;exact⟨0,by simp [Nat.eq_of_beq_eq_true hb],rfl⟩
   |false=>simp [hb]at h;obtain⟨j,h1,h2⟩:=aoK h;exact⟨j + 1,by simpa using h1,by simpa using h2⟩
theorem aug{ent:Nat→Option Entry}: ∀ {L:List Nat} {es:List Entry} {i j:Nat},L[j]? =some i→es.length=L.length→axG ent i→ ∃ e,look? (afg ent L es) i=some e
 | [],es,i,j,h,_,_=>by simp at h
 |_::_,[],i,j,_,h,_=>by simp at h
 |k::r,x::es,i,j,h,hl,hd=>by
  simp only [afg]
  cases j with
  |zero=>
   simp at h;subst h
   split
   ·rename_i e t xs he;exact(hd _ _ _ he).elim
   ·exact⟨x,look?_same _ _ _⟩
  |succ j=>
   simp at h hl
   obtain⟨e,he⟩:=aug h hl hd
   split
   ·exact⟨e,he⟩
   ·simp only [look?]
    cases Nat.beq k i with
    |true=>exact⟨x,rfl⟩
    |false=>exact⟨e,he⟩
theorem alI{α β:Type}{f:α→Option β}{g:β→Option α}: ∀ {l:List α} {m:List β} {n:List α},QK f l=some m→QK g m=some n→(∀ x∈l,∀ y z,f x=some y→g y=some z→z=x)→n=l
 | [],m,n,h1,h2,_=>by simp [QK]at h1;subst h1;simp [QK]at h2;exact h2
 |a::l,m,n,h1,h2,hr=>by
  simp only [QK]at h1
  split at h1
  ·rename_i b bs e1 e2
   cases h1
   simp only [QK]at h2
   split at h2
   ·rename_i c cs e3 e4
    cases h2
    rw [hr a (by simp) b c e1 e3,alI e2 e4 fun x hx=>hr x (by simp [hx])]
   ·cases h2
  ·cases h1
section
variable{f g:Nat→Option Nat}
theorem Cell.ren_round(h: ∀ i j k,f i=some j→g j=some k→k=i){c c1 c2:Cell}(h1:c.ren f=some c1)(h2:c1.ren g=some c2):c2=c:=by
 cases c with
 |val v=>simp [Cell.ren]at h1;subst h1;simp [Cell.ren]at h2;exact h2.symm
 |ptr id off=>
  simp only [Cell.ren,Option.map_eq_some_iff]at h1
  obtain⟨j,hj,rfl⟩:=h1
  simp only [Cell.ren,Option.map_eq_some_iff]at h2
  obtain⟨k,hk,rfl⟩:=h2
  rw [h _ _ _ hj hk]
 |ref id=>
  simp only [Cell.ren,Option.map_eq_some_iff]at h1
  obtain⟨j,hj,rfl⟩:=h1
  simp only [Cell.ren,Option.map_eq_some_iff]at h2
  obtain⟨k,hk,rfl⟩:=h2
  rw [h _ _ _ hj hk]
 |el id z i off=>
  simp only [Cell.ren,Option.map_eq_some_iff]at h1
  obtain⟨j,hj,rfl⟩:=h1
  simp only [Cell.ren,Option.map_eq_some_iff]at h2
  obtain⟨k,hk,rfl⟩:=h2
  rw [h _ _ _ hj hk]
 |vw id z q=>
  simp only [Cell.ren,Option.map_eq_some_iff]at h1
  obtain⟨j,hj,rfl⟩:=h1
  simp only [Cell.ren,Option.map_eq_some_iff]at h2
  obtain⟨k,hk,rfl⟩:=h2
  rw [h _ _ _ hj hk]
 |clo q caps=>
  simp only [Cell.ren,Option.map_eq_some_iff]at h1
  obtain⟨j,hj,rfl⟩:=h1
  simp only [Cell.ren,Option.map_eq_some_iff]at h2
  obtain⟨k,hk,rfl⟩:=h2
  rw [alI hj hk fun x _ y z h1 h2=>h x y z h1 h2]
theorem Entry.ren_round(h: ∀ i j k,f i=some j→g j=some k→k=i){e e1 e2:Entry}(h1:e.ren f=some e1)(h2:e1.ren g=some e2):e2=e:=by
 have hc: ∀ {cs cs1 cs2:List Cell},QK (Cell.ren f) cs=some cs1→QK (Cell.ren g) cs1=some cs2→cs2=cs:=fun h1 h2=>alI h1 h2 fun x _ y z q1 q2=>Cell.ren_round h q1 q2
 cases e with
 |box T cs=>
  simp only [Entry.ren,Option.map_eq_some_iff]at h1
  obtain⟨j,hj,rfl⟩:=h1
  simp only [Entry.ren,Option.map_eq_some_iff]at h2
  obtain⟨k,hk,rfl⟩:=h2
  rw [hc hj hk]
 |row own e t xs=>simp only [Entry.ren,Option.some.injEq]at h1;subst h1;simp only [Entry.ren,Option.some.injEq]at h2;exact h2.symm
 |tree e t xs ho=>
  cases ho with
  |none=>simp only [Entry.ren,Option.some.injEq]at h1;subst h1;simp only [Entry.ren,Option.some.injEq]at h2;exact h2.symm
  |some q=>
   obtain⟨n,cs⟩:=q
   simp only [Entry.ren,Option.map_eq_some_iff]at h1
   obtain⟨j,hj,rfl⟩:=h1
   simp only [Entry.ren,Option.map_eq_some_iff]at h2
   obtain⟨k,hk,rfl⟩:=h2
   rw [hc hj hk]
 |gone=>simp only [Entry.ren,Option.some.injEq]at h1;subst h1;simp only [Entry.ren,Option.some.injEq]at h2;exact h2.symm
end
theorem look?_ne_mem{es:List (Nat×Entry)}{i:Nat}(h: ∀ e,(i,e)∉es):look? es i=none:=by
 induction es with
 |nil=>rfl
 |cons p r ih=>
  obtain⟨k,x⟩:=p
  simp only [look?]
  cases hb:Nat.beq k i with
  |true=>rw [Nat.eq_of_beq_eq_true hb]at h;exact(h x (by simp)).elim
  |false=>simp only [cond_false];exact ih fun e he=>h e (by simp [he])
theorem anF{ent:Nat→Option Entry}{kp:List Nat}{n:Nat}: ∀ {M:List Nat} {es:List Entry} {j i:Nat} {e:Entry},(i,e)∈apE ent kp n j M es→i∈M
 | [],es,j,i,e,h=>by simp [apE]at h
 |_::_,[],j,i,e,h=>by simp [apE]at h
 |k::r,x::es,j,i,e,h=>by
  simp only [apE]at h
  split at h
  ·exact List.mem_cons_of_mem _ (anF h)
  ·cases hb:(Nat.blt j n&&memN kp j)with
   |true=>rw [hb]at h;exact List.mem_cons_of_mem _ (anF h)
   |false=>
    rw [hb]at h
    rcases List.mem_cons.1 h with h | h
    ·cases h;exact List.mem_cons_self ..
    ·exact List.mem_cons_of_mem _ (anF h)
theorem auh{ent e0:Nat→Option Entry}{kp:List Nat}{n:Nat}(hE: ∀ id e,ent id=some e→e0 id=some e): ∀ {M:List Nat} {es:List Entry} {j:Nat},M.Nodup→
  (∀ q i e,M[q]? =some i→es[q]? =some e→(Nat.blt (j + q) n&&memN kp (j + q))=true→ent i=some e)→bL e0 (apE ent kp n j M es)=bL e0 (afg ent M es)
 | [],es,j,_,_=>by simp [apE,afg]
 |_::_,[],j,_,_=>by simp [apE,afg]
 |k::r,x::es,j,hn,hk=>by
  obtain⟨hn1,hn2⟩:=List.nodup_cons.1 hn
  have ih:=auh (e0:=e0) (n:=n) (j:=j + 1) (kp:=kp) hE (M:=r) (es:=es) hn2 fun q i e h1 h2 h3=>hk (q + 1) i e (by simpa using h1) (by simpa using h2) (by rw [show j + (q + 1)=j + 1 + q by omega];exact h3)
  simp only [apE,afg]
  split
  ·exact ih
  ·funext id
   have ihd:=congrFun ih id
   cases hb:(Nat.blt j n&&memN kp j)with
   |false=>
    simp only [cond_false,bL,look?]
    cases Nat.beq k id with
    |true=>rfl
    |false=>exact ihd
   |true=>
    simp only [cond_true,bL,look?]
    cases hq:Nat.beq k id with
    |false=>exact ihd
    |true=>
     have hkid:=Nat.eq_of_beq_eq_true hq
     subst hkid
     have h1:=hk 0 k x rfl rfl hb
     rw [look?_ne_mem fun e he=>hn1 (anF he)]
     exact hE _ _ h1
end Go.SX
namespace Go.SX
open Go.RowKit
section
variable{P:Program}{tbl:List (PF P)}{s:St}{look:Nat→Option SS}{ent:Nat→Option Entry}{A:List (Nat×Bool)}{nid:Nat}{o:Oper}{r:Raw}{B:Base}{ρ:Nm}{a:Act}{w:World}{K:Act→World→Prop}{Q:Exit→Act→World→Prop}
def apP(ent:Nat→Option Entry)(ρ:Nm)(L:List Nat)(b:Nat):Prop:= ∃ i∈L,∃ e,ent i=some e∧b∈e.ob ρ i
open Classical in
 noncomputable def memBig (w:World) (ent:Nat→Option Entry) (ρ:Nm) (L:List Nat) (b:Nat):Option Obj:=if apP ent ρ L b then none else w.heap[b]?
theorem aoZ{L:List Nat}{b:Nat}{o:Obj}(h:memBig w ent ρ L b=some o):w.heap[b]? =some o:=by
 unfold memBig at h;split at h
 ·cases h
 ·exact h
theorem aqo{L:List Nat}{b:Nat}(h:apP ent ρ L b):memBig w ent ρ L b=none:=by
 unfold memBig;rw [if_pos h]
theorem TM{L:List Nat}{b:Nat}(h:memBig w ent ρ L b=none):apP ent ρ L b∨w.heap.size≤b:=by
 unfold memBig at h;split at h
 ·rename_i h';exact .inl h'
 ·right
  rcases Nat.lt_or_ge b w.heap.size with dd | hge
  ·rw [Array.getElem?_eq_getElem dd]at h;cases h
  ·exact hge
 noncomputable def subNm (ρ:Nm) (L:List Nat):Nm:=⟨fun j=>match L[j]? with | some i=>ρ.nm i | none=> .nilFunc,ρ.mem,fun j=>match L[j]? with | some i=>ρ.fp i | none=> []⟩
theorem vM{L:List Nat}{j i:Nat}(h:L[j]? =some i):subNm ρ L j=ρ i:=by
 simp only [Nm.of,subNm,h]
theorem anw{L:List Nat}{j i:Nat}(h:L[j]? =some i):(subNm ρ L).fp j=ρ.fp i:=by
 simp only [subNm,h]
theorem aou{ρ ρ':Nm}{i j:Nat}{own:Bool}{e:TypeId}{t:CTy}{xs:List (E t)}(h:ρ' j=ρ i):(Entry.row own e t xs).ob ρ' j=(Entry.row own e t xs).ob ρ i:=by
 cases own <;> simp only [Entry.ob,h]
theorem abH{B':Base}{ρ':Nm}{id id':Nat}{f:Nat→Option Nat}{U:Nat→Bool}{e:TypeId}{t:CTy}{xs:List (E t)}{h:Option (Nat×List Cell)}{e':Entry}(hh:(Entry.tree e t xs h).holds B ρ w id)(hr:(Entry.tree e t xs h).ren f=some e')
  (mL:ρ' id'=ρ id) (hfp:ρ'.fp id'=ρ.fp id) (hb: ∀ b∈(Entry.tree e t xs h).ob ρ id,B'.mem b=none∧ρ'.mem b=none) (Qt:(Entry.tree e t xs h).inU U) (hc: ∀ i j,U i=true→f i=some j→ρ' j=ρ i):
  e'.holds B' ρ' w id'∧e'.ob ρ' id'=(Entry.tree e t xs h).ob ρ id:=by
 obtain⟨cs,Ls,k1,k2,k3,k4,_⟩:=hh
 cases h with
 |none=>
  simp only [Entry.ren,Option.some.injEq]at hr;subst hr
  refine⟨?_,by simp only [Entry.ob,mL,hfp]⟩
  simp only [Entry.holds,mL,hfp]
  exact⟨cs,Ls,k1,k2.keep (fun _ _=>rfl) (fun _ _ h=>by cases h),k3,k4,hb⟩
 |some p=>
  obtain⟨k,hc0⟩:=p
  simp only [Entry.ren,Option.map_eq_some_iff]at hr
  obtain⟨c1,hm,rfl⟩:=hr
  refine⟨?_,by simp only [Entry.ob,mL,hfp]⟩
  simp only [Entry.holds,mL,hfp]
  obtain⟨t1,t2,t3,t4⟩:=k2
  refine⟨cs,Ls,k1,⟨t1,fun j l he=> ?_,fun i x l hi hx hl=>t3 i x l (fun j l' he=> ?_) hx hl,t4⟩,k3,k4,hb⟩
  ·cases he
   obtain⟨a,b,c⟩:=t2 k hc0 rfl
   refine⟨a,b,?_⟩
   rw [c]
   exact(MN hm fun x hx y hy=>Cell.ren_conc hc (Qt x hx) hy).symm
  ·cases he;exact hi _ _ rfl
theorem asf{ρ':Nm}{id id':Nat}{f:Nat→Option Nat}{e:TypeId}{t:CTy}{xs:List (E t)}{h:Option (Nat×List Cell)}{e':Entry}(hr:(Entry.tree e t xs h).ren f=some e')(hh:e'.holds B ρ w id')
  (mL:ρ' id=ρ id') (hfp:ρ'.fp id=ρ.fp id') (Qu:ρ'.mem=ρ.mem) (hc: ∀ i j,f i=some j→ρ' i=ρ j):
  (Entry.tree e t xs h).holds B ρ' w id∧(Entry.tree e t xs h).ob ρ' id=e'.ob ρ id':=by
 cases h with
 |none=>
  simp only [Entry.ren,Option.some.injEq]at hr;subst hr
  obtain⟨cs,Ls,k1,k2,k3,k4,k5⟩:=hh
  refine⟨?_,by simp only [Entry.ob,mL,hfp]⟩
  simp only [Entry.holds,mL,hfp,Qu]
  exact⟨cs,Ls,k1,k2.keep (fun _ _=>rfl) (fun _ _ h=>by cases h),k3,k4,k5⟩
 |some p=>
  obtain⟨k,hc0⟩:=p
  simp only [Entry.ren,Option.map_eq_some_iff]at hr
  obtain⟨c1,hm,rfl⟩:=hr
  obtain⟨cs,Ls,k1,k2,k3,k4,k5⟩:=hh
  refine⟨?_,by simp only [Entry.ob,mL,hfp]⟩
  simp only [Entry.holds,mL,hfp,Qu]
  obtain⟨t1,t2,t3,t4⟩:=k2
  refine⟨cs,Ls,k1,⟨t1,fun j l he=> ?_,fun i x l hi hx hl=>t3 i x l (fun j l' he=> ?_) hx hl,t4⟩,k3,k4,k5⟩
  ·cases he
   obtain⟨a,b,c⟩:=t2 k c1 rfl
   refine⟨a,b,?_⟩
   rw [c]
   exact MN hm fun x hx y hy=>Cell.ren_conc (ρ:=ρ') (ρ':=ρ) (U:=fun _=>true) (fun i j _ hij=>(hc i j hij).symm) (by cases x <;> simp [Cell.inU]) hy
  ·cases he;exact hi _ _ rfl
theorem afU{f:Nat→Option Nat}{U':Nat→Bool}{e:TypeId}{t:CTy}{xs:List (E t)}{h:Option (Nat×List Cell)}{e':Entry}(hr:(Entry.tree e t xs h).ren f=some e')(hf: ∀ i j,f i=some j→U' j=true):e'.inU U':=by
 cases h with
 |none=>simp only [Entry.ren,Option.some.injEq]at hr;subst hr;trivial
 |some p=>
  obtain⟨k,hc0⟩:=p
  simp only [Entry.ren,Option.map_eq_some_iff]at hr
  obtain⟨c1,hm,rfl⟩:=hr
  exact FJ hm fun x _ y hy=>Cell.ren_inU hf hy
theorem Yg{L:List Nat}{es:List Entry}(hE: ∀ id e,ent id=some e→s.ent id=some e)(h:QK (atQ ent L) L=some es){j:Nat}{e':Entry}(hj:es[j]? =some e'):
  ∃ i e,L[j]? =some i∧s.ent i=some e∧e.ren (aa5 L)=some e':=by
 obtain⟨i,h1,h2⟩:=(MM h).2 j e' hj
 unfold atQ at h2
 split at h2
 ·rename_i e he;exact⟨i,e,h1,hE _ _ he,h2⟩
 ·cases h2
theorem atP: ∀ {L:List Nat} {i:Nat},i∈L→ ∃ j,aa5 L i=some j
 | [],i,h=>by cases h
 |p::r,i,h=>by
  simp only [aa5]
  cases hb:Nat.beq p i with
  |true=>exact⟨0,rfl⟩
  |false=>
   rcases List.mem_cons.1 h with rfl | h
   ·rw [show Nat.beq i i=true from Nat.beq_refl i]at hb;cases hb
   ·obtain⟨j,hj⟩:=atP h
    exact⟨j + 1,by rw [hj];rfl⟩
theorem lend(hE: ∀ id e,ent id=some e→s.ent id=some e)(hp:Hp B ρ s.ent s.used w){L:List Nat}(hn:L.Nodup){es:List Entry}(hes:QK (atQ ent L) L=some es):
  HpL w (memBig w s.ent ρ L) es (subNm ρ L) w:=by
 have tS:=(MM hes).1
 have hpos: ∀ i j,(fun _:Nat=>true) i=true→aa5 L i=some j→subNm ρ L j=ρ i:=fun i j _ h=>vM (HF h)
 have hob: ∀ j e' i e,L[j]? =some i→s.ent i=some e→e.ren (aa5 L)=some e'→ ∀ b,b∈e'.ob (subNm ρ L) j→b∈e.ob ρ i:=by
  intro j e' i e h1 h2 h3 b hb
  cases e with
  |box T cs=>simp only [Entry.ren,Option.map_eq_some_iff]at h3;obtain⟨cs',_,rfl⟩:=h3;simp only [Entry.ob,vM h1]at hb ⊢;exact hb
  |row own e t xs=>simp only [Entry.ren,Option.some.injEq]at h3;subst h3;rw [aou (vM h1)]at hb;exact hb
  |tree e t xs ho=>rw [(abH (B':=B) (ρ':=subNm ρ L) (id':=j) (U:=fun _=>true) (hp.he _ _ h2).1 h3 (vM h1) (anw h1) (fun b hb=>(Entry.ob_lt (hp.he _ _ h2).1 hb).2) (Entry.inU_mono (fun _ _=>rfl) (hp.he _ _ h2).2.2) hpos).2]at hb;exact hb
  |gone=>simp only [Entry.ren,Option.some.injEq]at h3;subst h3;exact hb
 refine⟨fun j e' he'=> ?_,fun j j' e e' b he he' hb hb'=> ?_,rfl,rfl,rfl,Nat.le_refl _,fun b o hb=>aoZ hb,hp.hf.dat,hp.hf.gl⟩
 ·obtain⟨i,e,h1,h2,h3⟩:=Yg hE hes he'
  have dd:j < es.length:=(List.getElem?_eq_some_iff.1 he').1
  obtain⟨g1,g2,g3⟩:=hp.he i e h2
  have hU: ∀ i j,aa5 L i=some j→Nat.blt j es.length=true:=fun i j h=>by
   have:=(List.getElem?_eq_some_iff.1 (HF h)).1
   simp only [Nat.blt,Nat.ble_eq];omega
  refine⟨?_,by simp only [Nat.blt,Nat.ble_eq];omega,?_⟩
  ·have vP: ∀ b∈e.ob ρ i,memBig w s.ent ρ L b=none:=fun b hb=>aqo ⟨i,List.mem_of_getElem? h1,e,h2,hb⟩
   cases e with
   |box T cs=>
    simp only [Entry.ren,Option.map_eq_some_iff]at h3
    obtain⟨cs',Up,rfl⟩:=h3
    obtain⟨b,k1,k2,k3,k4⟩:=g1
    refine⟨b,by rw [vM h1];exact k1,?_,vP b (by simp [Entry.ob,k1,ka]),k4⟩
    rw [MN Up fun x hx y hy=>Cell.ren_conc (U:=fun _=>true) hpos (by cases x <;> simp [Cell.inU]) hy]
    exact k2
   |row own e0 t xs=>
    simp only [Entry.ren,Option.some.injEq]at h3;subst h3
    cases own with
    |false=>simp only [Entry.holds];rw [vM h1];exact g1
    |true=>
     obtain⟨cs,k1,k2,k3⟩:=g1
     simp only [Entry.holds];rw [vM h1]
     exact⟨cs,k1,k2,fun b hb=>⟨vP b hb,(k3 b hb).2⟩⟩
   |tree e0 t xs ho=>exact(abH (ρ':=subNm ρ L) (id':=j) (U:=fun _=>true) g1 h3 (vM h1) (anw h1) (fun b hb=>⟨vP b hb,(Entry.ob_lt g1 hb).2.2⟩) (Entry.inU_mono (fun _ _=>rfl) g3) hpos).1
   |gone=>simp only [Entry.ren,Option.some.injEq]at h3;subst h3;trivial
  ·cases e with
   |box T cs=>
    simp only [Entry.ren,Option.map_eq_some_iff]at h3
    obtain⟨cs',Up,rfl⟩:=h3
    exact FJ Up fun x _ y hy=>Cell.ren_inU hU hy
   |row own e0 t xs=>simp only [Entry.ren,Option.some.injEq]at h3;subst h3;trivial
   |tree e0 t xs ho=>exact afU h3 hU
   |gone=>simp only [Entry.ren,Option.some.injEq]at h3;subst h3;trivial
 ·obtain⟨i,e1,h1,h2,h3⟩:=Yg hE hes he
  obtain⟨i',e1',h1',h2',h3'⟩:=Yg hE hes he'
  have:=hp.hi i i' e1 e1' b h2 h2' (hob j e i e1 h1 h2 h3 b hb) (hob j' e' i' e1' h1' h2' h3' b hb')
  subst this
  exact aof hn h1 h1'
theorem ayC(hE: ∀ id e,ent id=some e→s.ent id=some e)(hp:Hp B ρ s.ent s.used w){L:List Nat}(hn:L.Nodup){es0 es1 es':List Entry}(hes:QK (atQ ent L) L=some es0)
  {m:Nat} (ne: ∀ i∈be nid m,s.used i=false) {ρc:Nm} {w':World} (tS:es1.length=L.length + m)
  (hx:Ext (memB w (memBig w s.ent ρ L)) (fun i=>Nat.blt i es0.length) (subNm ρ L) ρc) (h:HpL w (memBig w s.ent ρ L) es1 ρc w') (hr:QK (Entry.ren (aoN (L++be nid m))) es1=some es'):
  ∃ ρ':Nm,Ext B s.used ρ ρ'∧(∀ i j,Nat.blt i es1.length=true→aoN (L++be nid m) i=some j→ρ' j=ρc i)∧
   Hp B ρ' (bL s.ent (afg ent (L++be nid m) es')) (bT s.used (be nid m)) w':=by
 have hL: ∀ i∈L,s.used i=true:=fun i hi=>by
  obtain⟨j,hj⟩:=List.mem_iff_getElem?.1 hi
  have hjl:=(List.getElem?_eq_some_iff.1 hj).1
  have:j < es0.length:=by rw [(MM hes).1];exact hjl
  obtain⟨i',e,h1,h2,_⟩:=Yg hE hes (List.getElem?_eq_getElem this)
  rw [hj]at h1;cases h1
  exact(hp.he i e h2).2.1
 have hids: ∀ k n j:Nat,j < k→(be n k)[j]? =some (n + j):=by
  intro k
  induction k with
  |zero=>intro n j hj;omega
  |succ k ih=>
   intro n j hj
   cases j with
   |zero=>simp [be]
   |succ j=>simp only [be,List.getElem?_cons_succ];rw [ih (n + 1) j (by omega)];congr 1;omega
 have hidl: ∀ k n:Nat,(be n k).length=k:=by
  intro k
  induction k with
  |zero=>intro n;rfl
  |succ k ih=>intro n;simp [be,ih]
 have hLL:(L++be nid m).length=es1.length:=by rw [List.length_append,hidl,tS]
 have hl0:es0.length=L.length:=(MM hes).1
 have hl':es'.length=es1.length:=(MM hr).1
 let ρ':Nm:=⟨fun id=>bif s.used id then ρ.nm id else ρc.nm (L.length + (id - nid)),ρc.mem,fun id=>match look? (afg ent (L++be nid m) es') id,aa5 (L++be nid m) id with | some _,some i=>ρc.fp i | _,_=>ρ.fp id⟩
 have hold: ∀ id,s.used id=true→ρ' id=ρ id:=fun id mL=>by simp only [Nm.of,ρ',mL,cond_true]
 have gc: ∀ i j:Nat,(L++be nid m)[i]? =some j→ρ' j=ρc i:=by
  intro i j hj
  by_cases hi:i < L.length
  ·rw [List.getElem?_append_left hi]at hj
   rw [hold j (hL j (List.mem_of_getElem? hj)),← vM hj]
   exact(hx.nm i (by simp only [Nat.blt,Nat.ble_eq];omega)).symm
  ·rw [List.getElem?_append_right (by omega)]at hj
   have dd:i - L.length < m:=by
    have:=(List.getElem?_eq_some_iff.1 hj).1;rwa [hidl]at this
   rw [hids m nid _ dd]at hj;cases hj
   have hu:=ne (nid + (i - L.length)) (List.mem_of_getElem? (hids m nid _ dd))
   simp only [Nm.of,ρ',hu,cond_false]
   rw [show L.length + (nid + (i - L.length) - nid)=i by omega]
 have hnodup: ∀ i i' j:Nat,(L++be nid m)[i]? =some j→(L++be nid m)[i']? =some j→i=i':=by
  intro i i' j h1 h2
  by_cases hi:i < L.length
  ·rw [List.getElem?_append_left hi]at h1
   by_cases hi':i' < L.length
   ·rw [List.getElem?_append_left hi']at h2;exact aof hn h1 h2
   ·rw [List.getElem?_append_right (by omega)]at h2
    have:=ne j (List.mem_of_getElem? h2)
    rw [hL j (List.mem_of_getElem? h1)]at this;cases this
  ·rw [List.getElem?_append_right (by omega)]at h1
   have dd:i - L.length < m:=by
    have:=(List.getElem?_eq_some_iff.1 h1).1;rwa [hidl]at this
   by_cases hi':i' < L.length
   ·rw [List.getElem?_append_left hi']at h2
    have:=ne j (List.mem_of_getElem? h1)
    rw [hL j (List.mem_of_getElem? h2)]at this;cases this
   ·rw [List.getElem?_append_right (by omega)]at h2
    have hlt':i' - L.length < m:=by
     have:=(List.getElem?_eq_some_iff.1 h2).1;rwa [hidl]at this
    rw [hids m nid _ dd]at h1
    rw [hids m nid _ hlt']at h2
    cases h1
    have:=Option.some.inj h2
    omega
 have Uk: ∀ b,apP s.ent ρ L b→Was s.ent ρ (afg ent (L++be nid m) es') b:=by
  rintro b ⟨i,hi,e,he,hb⟩
  obtain⟨j,hj⟩:=List.mem_iff_getElem?.1 hi
  have hjl:=(List.getElem?_eq_some_iff.1 hj).1
  obtain⟨e',he'⟩:=aug (ent:=ent) (es:=es') (i:=i) (j:=j) (L:=L++be nid m) (by rw [List.getElem?_append_left hjl];exact hj) (by rw [hl',hLL]) (fun e0 t xs hh=>by
   rw [hE _ _ hh]at he;cases he;simp [Entry.ob]at hb)
  exact⟨i,e,e',he,hb,he'⟩
 have hBnone: ∀ b,memBig w s.ent ρ L b=none→B.mem b=none:=fun b hb=>by
  rcases TM hb with⟨i,_,e,he,hb⟩ | hge
  ·exact(Entry.ob_lt (hp.he i e he).1 hb).2.1
  ·cases hm:B.mem b with
   |none=>rfl
   |some o=>have:=(Array.getElem?_eq_some_iff.1 (hp.hf.mem _ _ hm)).1;omega
 have hren: ∀ i j,Nat.blt i es1.length=true→aoN (L++be nid m) i=some j→ρ' j=ρc i:=fun i j _ h=>gc i j h
 have hUj: ∀ i j,aoN (L++be nid m) i=some j→bT s.used (be nid m) j=true:=fun i j hj=>by
  rcases List.mem_append.1 (List.mem_of_getElem? hj)with hm | hm
  ·exact iy _ (hL j hm)
  ·exact LG hm
 have hgfp: ∀ (i id:Nat) (e:Entry),(L++be nid m)[i]? =some id→look? (afg ent (L++be nid m) es') id=some e→ρ'.fp id=ρc.fp i:=by
  intro i id e hi hl
  obtain⟨j,hj⟩:=atP (List.mem_of_getElem? hi)
  have:=hnodup _ _ _ (HF hj) hi
  subst this
  show (match look? (afg ent (L++be nid m) es') id,aa5 (L++be nid m) id with | some _,some i=>ρc.fp i | _,_=>ρ.fp id)=_
  rw [hl,hj]
 have aco: ∀ id e,look? (afg ent (L++be nid m) es') id=some e→ ∃ (i:Nat) (e0:Entry),(L++be nid m)[i]? =some id∧es1[i]? =some e0∧e0.ren (aoN (L++be nid m))=some e∧ρ'.fp id=ρc.fp i∧e.ob ρ' id=e0.ob ρc i:=by
  intro id e hl
  obtain⟨i,h1,h2⟩:=aoK hl
  obtain⟨e0,h3,h4⟩:=(MM hr).2 i e h2
  have hf:=hgfp i id e h1 hl
  refine⟨i,e0,h1,h3,h4,hf,?_⟩
  have hg:=gc i id h1
  cases e0 with
  |box T cs=>simp only [Entry.ren,Option.map_eq_some_iff]at h4;obtain⟨cs',_,rfl⟩:=h4;simp only [Entry.ob,hg]
  |row own e t xs=>simp only [Entry.ren,Option.some.injEq]at h4;subst h4;exact aou hg
  |tree e0 t xs ho=>
   have g1:=h.he i _ h3
   exact(abH (B':=memB w (memBig w s.ent ρ L)) (U:=fun i=>Nat.blt i es1.length) g1.1 h4 hg hf (fun b hb=>(Entry.ob_lt g1.1 hb).2) g1.2.2 hren).2
  |gone=>simp only [Entry.ren,Option.some.injEq]at h4;subst h4;rfl
 have hchg:Chg w w' (apP s.ent ρ L):=⟨h.hf.os,h.hf.tape,h.hf.output,h.hf.size,fun k hk hX=>by
  have:memBig w s.ent ρ L k=w.heap[k]? :=by unfold memBig;rw [if_neg hX]
  rw [Array.getElem?_eq_getElem hk]at this ⊢
  exact h.hf.mem k _ this⟩
 have cH:=hp.chg (ρ':=ρ') (es:=afg ent (L++be nid m) es') (new:=be nid m) hchg hold (fun b o hb=>hx.old b o hb) Uk
  (fun b o hb=>(hx.new b o hb).imp (fun h=>h) fun hb'=>⟨h.hf.dat b o hb,(TM hb').symm.imp (fun h=>h) (Uk b)⟩)
  (fun id e hl=>by
   obtain⟨i,e0,h1,h2,h3,hfp0,_⟩:=aco id e hl
   obtain⟨g1,_,g3⟩:=h.he i e0 h2
   have hUid:bT s.used (be nid m) id=true:=hUj i id h1
   refine⟨?_,hUid,?_⟩
   ·cases e0 with
    |box T cs=>
     simp only [Entry.ren,Option.map_eq_some_iff]at h3
     obtain⟨cs',Up,rfl⟩:=h3
     obtain⟨b,k1,k2,k3,k4⟩:=g1
     refine⟨b,by rw [gc i id h1];exact k1,?_,hBnone b k3,k4⟩
     rw [MN Up fun x hx y hy=>Cell.ren_conc hren (g3 x hx) hy]
     exact k2
    |row own e1 t xs=>
     simp only [Entry.ren,Option.some.injEq]at h3;subst h3
     cases own with
     |false=>simp only [Entry.holds];rw [gc i id h1];exact g1
     |true=>
      obtain⟨cs,k1,k2,k3⟩:=g1
      simp only [Entry.holds];rw [gc i id h1]
      exact⟨cs,k1,k2,fun b hb=>⟨hBnone b (k3 b hb).1,(k3 b hb).2⟩⟩
    |tree e1 t xs ho=>exact(abH (U:=fun i=>Nat.blt i es1.length) g1 h3 (gc i id h1) hfp0 (fun b hb=>⟨hBnone b (Entry.ob_lt g1 hb).2.1,(Entry.ob_lt g1 hb).2.2⟩) g3 hren).1
    |gone=>simp only [Entry.ren,Option.some.injEq]at h3;subst h3;trivial
   ·cases e0 with
    |box T cs=>
     simp only [Entry.ren,Option.map_eq_some_iff]at h3
     obtain⟨cs',Up,rfl⟩:=h3
     exact FJ Up fun x _ y hy=>Cell.ren_inU hUj hy
    |row own e1 t xs=>simp only [Entry.ren,Option.some.injEq]at h3;subst h3;trivial
    |tree e1 t xs ho=>exact afU h3 hUj
    |gone=>simp only [Entry.ren,Option.some.injEq]at h3;subst h3;trivial)
  (fun id e b hl hb=>by
   obtain⟨i,e0,h1,h2,_,_,h4⟩:=aco id e hl
   rw [h4]at hb
   exact(TM (Entry.ob_lt (h.he i e0 h2).1 hb).2.1).symm.imp (fun h=>h) (Uk b))
  (fun id id' e e' b hl hl' hb hb'=>by
   obtain⟨i,e0,h1,h2,_,_,h4⟩:=aco id e hl
   obtain⟨i',e0',h1',h2',_,_,h4'⟩:=aco id' e' hl'
   rw [h4]at hb;rw [h4']at hb'
   have:=h.hi i i' e0 e0' b h2 h2' hb hb'
   subst this
   rw [h1]at h1';exact Option.some.inj h1')
  (fun id _ hl=>by
   show (match look? (afg ent (L++be nid m) es') id,aa5 (L++be nid m) id with | some _,some i=>ρc.fp i | _,_=>ρ.fp id)=_
   rw [hl])
 exact⟨ρ',cH.1,hren,cH.2⟩
end
end Go.SX
namespace Go.SX
open Go.RowKit
def avO(P:Program)(f:TypeId→V1→V1→Option Bool):List Field→List Cell→List Cell→Option Bool
 | [],_,_=>some true
 |fd::r,cx,cy=>match decide (fd.name= "_")with
  |true=>avO P f r cx cy
  |false=>match aix P fd.type fd.offset cx,aix P fd.type fd.offset cy with
   |some a,some b=>match f fd.type a b,avO P f r cx cy with
    |some u,some v=>some (bif u then v else false)
    |_,_=>none
   |_,_=>none
def eqC(P:Program):Nat→TypeId→V1→V1→Option Bool
 |0,_,_,_=>none
 |d + 1,t,x,y=>match P.underlying t with
  |some .bool=>match x,y with
   |⟨false,[.val (.bool a)]⟩,⟨false,[.val (.bool b)]⟩=>some (a==b)
   |_,_=>none
  |some (.int _)=>match x,y with
   |⟨false,[.val (.int k a)]⟩,⟨false,[.val (.int k' b)]⟩=>if k=k' then some (a==b)else none
   |_,_=>none
  |some .string=>match x,y with
   |⟨false,[.val (.string a)]⟩,⟨false,[.val (.string b)]⟩=>some (a==b)
   |_,_=>none
  |some (.struct fs)=>match x,y with
   |⟨true,cx⟩,⟨true,cy⟩=>bif P.stoodInHeld t then none else avO P (eqC P d) fs.toList cx cy
   |_,_=>none
  |_=>none
def eqV(P:Program)(look:Nat→Option SS)(A:List (Nat×Bool))(op:BinOp)(T:TypeId)(x y:Operand):Option Raw:=
 match op,ev1 look A x,ev1 look A y with
 | .eql,some ⟨true,cx⟩,some ⟨true,cy⟩=>bif P.eqGuardType P.depth T then none else match eqC P 12 T ⟨true,cx⟩ ⟨true,cy⟩with
  |some b=>some (.ofV (one (.val (.bool b))))
  |none=>none
 | .neq,some ⟨true,cx⟩,some ⟨true,cy⟩=>bif P.eqGuardType P.depth T then none else match eqC P 12 T ⟨true,cx⟩ ⟨true,cy⟩with
  |some b=>some (.ofV (one (.val (.bool (!b)))))
  |none=>none
 |_,_,_=>none
def auw(P:Program)(look:Nat→Option SS)(ent:Nat→Option Entry)(A:List (Nat×Bool))(op:BinOp)(T:TypeId)(x y:Operand):Option Raw:=
 match op,P.underlying T,evC look A x,evC look A y with
 | .eql,some (.slice _),some (.ref id),some (.val (.slice none 0 0))=>match ent id with
  |some (.row _ _ _ xs)=>some ⟨one (.val (.bool false)),[],[],[decide (0 < xs.length)]⟩
  |_=>none
 | .neq,some (.slice _),some (.ref id),some (.val (.slice none 0 0))=>match ent id with
  |some (.row _ _ _ xs)=>some ⟨one (.val (.bool true)),[],[],[decide (0 < xs.length)]⟩
  |_=>none
 |_,_,_,_=>none
section
variable{P:Program}{s:St}{look:Nat→Option SS}{ent:Nat→Option Entry}{A:List (Nat×Bool)}{nid:Nat}{o:Oper}{r:Raw}{B:Base}{ρ:Nm}{a:Act}{w:World}{K:Act→World→Prop}{Q:Exit→Act→World→Prop}
theorem alz{f:TypeId→V1→V1→Option Bool}{d:Nat}(hf: ∀ t x y b,f t x y=some b→(Op.equalIn d t (x.conc ρ) (y.conc ρ)).run P w= .ok b w):
  ∀ (fs:List Field) (cx cy:List Cell) (b:Bool),avO P f fs cx cy=some b→(Op.eqFields d (cx.map (Cell.conc ρ)).toArray (cy.map (Cell.conc ρ)).toArray fs).run P w= .ok b w
 | [],_,_,b,h=>by simp only [avO,Option.some.injEq]at h;subst h;simp [Op.eqFields]
 |fd::r,cx,cy,b,h=>by
  simp only [avO]at h
  split at h
  ·rename_i hn
   have hn:=of_decide_eq_true hn
   simp only [Op.eqFields,hn,ne_eq,not_true_eq_false,if_false]
   exact alz hf r cx cy b h
  ·rename_i hn
   have hn:=of_decide_eq_false hn
   split at h
   ·rename_i u v hu hv
    split at h
    ·rename_i e1 e2 h1 h2
     cases h
     have p1:=aqY (ρ:=ρ) (w:=w) hu
     have p2:=aqY (ρ:=ρ) (w:=w) hv
     have p3:=hf _ _ _ _ h1
     have ih:=alz hf r cx cy e2 h2
     simp only [Op.eqFields,ne_eq,hn,not_false_eq_true,if_true,Sem.run_bind,p1,p2,p3,Result.andThen_ok]
     cases e1 with
     |true=>simpa using ih
     |false=>simp
    ·cases h
   ·cases h
theorem anW: ∀ (d D:Nat) (t:TypeId) (x y:V1) (b:Bool),eqC P d t x y=some b→(Op.equalIn (D + d) t (x.conc ρ) (y.conc ρ)).run P w= .ok b w
 |0,_,_,_,_,_,h=>by cases h
 |d + 1,D,t,x,y,b,h=>by
  simp only [eqC]at h
  split at h
  ·rename_i hu
   split at h
   ·cases h
    exact run_equalIn_bool w (D + d) t _ _ hu
   ·cases h
  ·rename_i k0 hu
   split at h
   ·rename_i k a k' b'
    split at h
    ·rename_i hk
     subst hk
     cases h
     exact run_equalIn_int w (D + d) t k k0 a b' hu
    ·cases h
   ·cases h
  ·rename_i hu
   split at h
   ·rename_i a' b'
    cases h
    have:=run_equalIn_string w (D + d) t a' b' hu
    rw [← beq_toListBytes]at this
    exact this
   ·cases h
  ·rename_i fs hu
   split at h
   ·rename_i cx cy
    cases hs:P.stoodInHeld t with
    |true=>rw [hs]at h;cases h
    |false=>
     rw [hs,cond_false]at h
     have hfs:P.fieldsOf t=fs:=by simp [Program.fieldsOf,hu]
     have hr:=run_equalIn_struct w (D + d) t (cx.map (Cell.conc ρ)).toArray (cy.map (Cell.conc ρ)).toArray (by rw [hfs];exact hu) hs
     rw [hfs]at hr
     exact hr.trans (alz (fun t x y b hb=>anW d D t x y b hb) fs.toList cx cy b h)
   ·cases h
  ·cases h
theorem avP(c:Ctx B ρ s a w look ent A){bop:BinOp}{T T':TypeId}{x y:Operand}(ho:o.op= .binOp bop T x y T')(h:eqV P look A bop T x y=some r)(hC:qI B s ρ r o a K):o.wp P a w K Q:=by
 obtain⟨dst,op,ty,pos,after,guard⟩:=o
 simp only at ho;subst ho
 unfold eqV at h
 split at h
 ·rename_i cx cy hx hy
  cases hg:P.eqGuardType P.depth T with
  |true=>rw [hg]at h;cases h
  |false=>
   rw [hg,cond_false]at h
   split at h
   ·rename_i b hb
    cases h
    have BT:=(c.ev1 hx).1
    have XZ:=(c.ev1 hy).1
    have he:=anW (ρ:=ρ) (w:=w) 12 9988 T _ _ b hb
    simp only [V1.conc]at BT XZ he
    refine aV (w':=w) ?_ (qI.same (v:=one (.val (.bool b))) rfl hC c.hp)
    simp only [execOp,BT,XZ,Sem.run_bind,run_eqGuard_agg w .eql T x y _ _ hg,Result.andThen_ok,run_eql_struct,he,one,SV.conc,V1.conc,Cell.conc]
    rfl
   ·cases h
 ·rename_i cx cy hx hy
  cases hg:P.eqGuardType P.depth T with
  |true=>rw [hg]at h;cases h
  |false=>
   rw [hg,cond_false]at h
   split at h
   ·rename_i b hb
    cases h
    have BT:=(c.ev1 hx).1
    have XZ:=(c.ev1 hy).1
    have he:=anW (ρ:=ρ) (w:=w) 12 9988 T _ _ b hb
    simp only [V1.conc]at BT XZ he
    refine aV (w':=w) ?_ (qI.same (v:=one (.val (.bool (!b)))) rfl hC c.hp)
    simp only [execOp,BT,XZ,Sem.run_bind,run_eqGuard_agg w .neq T x y _ _ hg,Result.andThen_ok,run_neq_struct,he,one,SV.conc,V1.conc,Cell.conc]
    rfl
   ·cases h
 ·cases h
theorem atU{own:Bool}{id:Nat}{e:TypeId}{t:CTy}{xs:List (E t)}(h:(Entry.row own e t xs).holds B ρ w id)(hf: ∀ b o,ρ.mem b=some o→w.heap[b]? =some o)(hx:0 < xs.length):
  ∃ b n cap,ρ id= .slice (some b) n cap:=by
 rcases ZV h hf with⟨_,hn⟩ | ⟨b,off,cap,news,hv,_⟩
 ·subst hn;cases hx
 ·exact⟨_,_,_,hv⟩
theorem aqX{T e:TypeId}(hT:P.underlying T=some (.slice e))(b:Addr)(n cap d:Nat):(Op.equalIn (d + 1) T (.slice (some b) n cap) (.slice none 0 0)).run P w= .ok false w:=by
 simp [Op.equalIn,run_underlying hT]
theorem atY{T e:TypeId}(hT:P.underlying T=some (.slice e))(b:Addr)(n cap:Nat)(x y:Operand):(do eqGuard .eql T x y (.slice (some b) n cap) (.slice none 0 0);binOp .eql T (.slice (some b) n cap) (.slice none 0 0):Sem Value).run P w= .ok (.bool false) w:=by
 have h:=aqX (w:=w) hT b n cap 9999
 have h0:(eqGuard .eql T x y (.slice (some b) n cap) (.slice none 0 0)).run P w= .ok () w:=rfl
 have h1:(binOp .eql T (.slice (some b) n cap) (.slice none 0 0)).run P w= .ok (.bool false) w:=by
  show (do pure (.bool (← Op.equalIn (9999 + 1) T (.slice (some b) n cap) (.slice none 0 0))):Sem Value).run P w=_
  rw [Sem.run_bind,h];rfl
 rw [Sem.run_bind,h0];exact h1
theorem atZ{T e:TypeId}(hT:P.underlying T=some (.slice e))(b:Addr)(n cap:Nat)(x y:Operand):(do eqGuard .neq T x y (.slice (some b) n cap) (.slice none 0 0);binOp .neq T (.slice (some b) n cap) (.slice none 0 0):Sem Value).run P w= .ok (.bool true) w:=by
 have h:=aqX (w:=w) hT b n cap 9999
 have h0:(eqGuard .neq T x y (.slice (some b) n cap) (.slice none 0 0)).run P w= .ok () w:=rfl
 have h1:(binOp .neq T (.slice (some b) n cap) (.slice none 0 0)).run P w= .ok (.bool true) w:=by
  show (do pure (.bool (!(← Op.equalIn (9999 + 1) T (.slice (some b) n cap) (.slice none 0 0)))):Sem Value).run P w=_
  rw [Sem.run_bind,h];rfl
 rw [Sem.run_bind,h0];exact h1
theorem asq(c:Ctx B ρ s a w look ent A){bop:BinOp}{T T':TypeId}{x y:Operand}(ho:o.op= .binOp bop T x y T')(h:auw P look ent A bop T x y=some r)(bz: ∀ b∈r.nd,b=true)(hC:qI B s ρ r o a K):o.wp P a w K Q:=by
 obtain⟨dst,op,ty,pos,after,guard⟩:=o
 simp only at ho;subst ho
 unfold auw at h
 split at h
 ·rename_i e id hT hx hy
  split at h
  ·rename_i own e' t xs he
   cases h
   have hl:0 < xs.length:=by simpa using bz (decide (0 < xs.length)) (by simp)
   have BT:=(c.evC hx).1
   have XZ:=(c.evC hy).1
   simp only [Cell.conc]at BT XZ
   obtain⟨b,n,cap,hv⟩:=atU (c.hp.he _ _ (c.hE _ _ he)).1 c.hp.hf.dat hl
   rw [hv]at BT
   refine aV (w':=w) ?_ (qI.same (v:=one (.val (.bool false))) rfl hC c.hp)
   have hr:=atY (w:=w) hT b n cap x y
   simp only [Sem.run_bind]at hr
   simp only [execOp,BT,XZ,Sem.run_bind,hr,one,SV.conc,V1.conc,Cell.conc]
   rfl
  ·cases h
 ·rename_i e id hT hx hy
  split at h
  ·rename_i own e' t xs he
   cases h
   have hl:0 < xs.length:=by simpa using bz (decide (0 < xs.length)) (by simp)
   have BT:=(c.evC hx).1
   have XZ:=(c.evC hy).1
   simp only [Cell.conc]at BT XZ
   obtain⟨b,n,cap,hv⟩:=atU (c.hp.he _ _ (c.hE _ _ he)).1 c.hp.hf.dat hl
   rw [hv]at BT
   refine aV (w':=w) ?_ (qI.same (v:=one (.val (.bool true))) rfl hC c.hp)
   have hr:=atZ (w:=w) hT b n cap x y
   simp only [Sem.run_bind]at hr
   simp only [execOp,BT,XZ,Sem.run_bind,hr,one,SV.conc,V1.conc,Cell.conc]
   rfl
  ·cases h
 ·cases h
end
end Go.SX
namespace Go.SX
open Go.RowKit
def avu:List GEnt→Nat→Option GEnt
 | [],_=>none
 |x::r,g=>bif Nat.beq x.g g then some x else avu r g
theorem arP: ∀ {l:List GEnt} {g:Nat} {x:GEnt},avu l g=some x→x∈l∧x.g=g
 | [],_,_,h=>by cases h
 |y::r,g,x,h=>by
  simp only [avu]at h
  cases hb:Nat.beq y.g g with
  |true=>rw [hb]at h;cases h;exact⟨by simp,Nat.eq_of_beq_eq_true hb⟩
  |false=>rw [hb]at h;have:=arP (l:=r) h;exact⟨by simp [this.1],this.2⟩
def avw(P:Program)(T:TypeId)(x:Operand):Option GEnt:=
 match x with
 | .global g=>match avu GT g with
  |some G=>match P.underlying T with
   |some (.array n e)=>match P.info? e with
    |some inf=>bif Nat.beq inf.size G.t.size&&(Nat.beq n G.xs.length&&Nat.beq e G.e)then some G else none
    |none=>none
   |_=>none
  |none=>none
 |_=>none
def asv(P:Program)(look:Nat→Option SS)(A:List (Nat×Bool))(nid:Nat)(T:TypeId)(x ix:Operand):Option Raw:=
 match avw P T x,evI look A ix with
 |some G,some i=>some ⟨one (.el nid G.t.size i.toNat 0),[(nid,.row false G.e G.t G.xs)],[nid],[decide (0≤i),decide (i < G.xs.length)]⟩
 |_,_=>none
def asw(P:Program)(look:Nat→Option SS)(A:List (Nat×Bool))(nid:Nat)(T:TypeId)(x:Operand)(lo hi mx:Option Operand):Option Raw:=
 match mx,avw P T x with
 |none,some G=>match bnd look A lo 0,bnd look A hi G.xs.length with
  |some l,some h=>some ⟨one (.ref nid),[(nid,.row false G.e G.t ((G.xs.take h.toNat).drop l.toNat))],[nid],[decide (0≤l),decide (l≤h),decide (h≤G.xs.length)]⟩
  |_,_=>none
 |_,_=>none
section
variable{P:Program}{tbl:List (PF P)}{s:St}{look:Nat→Option SS}{ent:Nat→Option Entry}{A:List (Nat×Bool)}{nid:Nat}{o:Oper}{r:Raw}{B:Base}{ρ:Nm}{a:Act}{w:World}{K:Act→World→Prop}{Q:Exit→Act→World→Prop}
theorem aoS{T:TypeId}{x:Operand}{G:GEnt}(h:avw P T x=some G):x= .global G.g∧G∈GT∧ ∃ e inf,P.underlying T=some (.array G.xs.length e)∧P.info? e=some inf∧inf.size=G.t.size:=by
 unfold avw at h
 split at h
 ·rename_i g
  split at h
  ·rename_i G' hG
   split at h
   ·rename_i n e hT
    split at h
    ·rename_i inf GC
     cases hb:(Nat.beq inf.size G'.t.size&&(Nat.beq n G'.xs.length&&Nat.beq e G'.e))with
     |false=>rw [hb]at h;cases h
     |true=>
      rw [hb]at h;cases h
      simp only [Bool.and_eq_true]at hb
      obtain⟨h1,h2⟩:=arP hG
      have:=Nat.eq_of_beq_eq_true hb.2.1
      subst this
      exact⟨by rw [h2],h1,e,inf,hT,GC,Nat.eq_of_beq_eq_true hb.1⟩
    ·cases h
   ·cases h
  ·cases h
 ·cases h
theorem atn{H:Nat→Option Obj}(h:GlOk H){G:GEnt}(hG:G∈GT):WL H G.t (.slice (some ⟨G.g,0,none⟩) G.xs.length G.xs.length) G.xs:=by
 obtain⟨h0,arr,T,fz,h1,h2⟩:=h G hG
 exact .inr ⟨G.g,0,G.xs.length,arr,T,fz,rfl,Nat.le_refl _,h0,h1,fun i x hx=>by rw [Nat.zero_add];exact h2 i x hx⟩
theorem avB(c:Ctx B ρ s a w look ent A){nid:Nat}{e:TypeId}{t:CTy}{xs:List (E t)}{v:Value}(hun:s.used nid=false)(hv:WL ρ.mem t v xs):
  Ext B s.used ρ (upd ρ nid v)∧Hp B (upd ρ nid v) (bL s.ent [(nid,.row false e t xs)]) (bT s.used [nid]) w:=
 c.hp.names (ρ':=upd ρ nid v) (es:= [(nid,.row false e t xs)]) (new:= [nid]) (SP hun _ _) rfl fun i x hl=>by
  obtain⟨rfl,rfl⟩:=look?_one hl
  refine⟨?_,by simp [bT,memN],trivial,rfl⟩
  simp only [Entry.holds]
  rw [jH _ _ (ZS hv)]
  exact hv
theorem arc(c:Ctx B ρ s a w look ent A){T:TypeId}{x ix:Operand}(ho:o.op= .indexAddr T x ix)(h:asv P look A nid T x ix=some r)(ne: ∀ i∈r.new,s.used i=false)(bz: ∀ b∈r.nd,b=true)
  (hC:qI B s ρ r o a K):o.wp P a w K Q:=by
 obtain⟨dst,op,ty,pos,after,guard⟩:=o
 simp only at ho;subst ho
 unfold asv at h
 split at h
 ·rename_i G i hG hi
  cases h
  obtain⟨rfl,hm,e,inf,hT,GC,WR⟩:=aoS hG
  have hun:=ne nid (by simp)
  have h0:0≤i:=by simpa using bz (decide (0≤i)) (by simp)
  have h1:i < G.xs.length:=by simpa using bz (decide (i < G.xs.length)) (by simp)
  obtain⟨k,hiv⟩:=c.evI hi
  obtain⟨hX,hp⟩:=avB c (e:=G.e) hun (atn c.hp.hf.gl hm)
  refine aV (u:= .pointer (some ⟨G.g,i.toNat * G.t.size,none⟩)) (w':=w) ?_ (hC _ _ w hX ?_ hp)
  ·have BT:a.eval (.global G.g)= .pointer (some ⟨G.g,0,none⟩):=rfl
   simp [execOp,Instr.indexAt,BT,hiv,run_underlying hT,Yh,h0,h1,sizeOf,typeInfo,GC,OV,Instr.sureAddr,WR]
  ·simp only [one,SV.conc,V1.conc,acn]
   rw [jH _ _ rfl]
   simp [YB,anb]
 ·cases h
theorem ard(c:Ctx B ρ s a w look ent A){T:TypeId}{x:Operand}{lo hi mx:Option Operand}(ho:o.op= .slice T x lo hi mx)(h:asw P look A nid T x lo hi mx=some r)(ne: ∀ i∈r.new,s.used i=false)(bz: ∀ b∈r.nd,b=true)
  (hC:qI B s ρ r o a K):o.wp P a w K Q:=by
 obtain⟨dst,op,ty,pos,after,guard⟩:=o
 simp only at ho;subst ho
 unfold asw at h
 split at h
 ·rename_i G hG
  split at h
  ·rename_i l m hl hm
   cases h
   obtain⟨rfl,Qu,e,inf,hT,GC,WR⟩:=aoS hG
   have hun:=ne nid (by simp)
   have h0:0≤l:=by simpa using bz (decide (0≤l)) (by simp)
   have h1:l≤m:=by simpa using bz (decide (l≤m)) (by simp)
   have h2:m≤G.xs.length:=by simpa using bz (decide (m≤G.xs.length)) (by simp)
   have hpart:=(atn c.hp.hf.gl Qu).part (l:=l.toNat) (m:=m.toNat) (z:=inf.size) (by omega) (by omega) WR rfl
   obtain⟨hX,hp⟩:=avB c (e:=G.e) hun hpart
   have hr:=alU (P:=P) (w:=w) (isS:=false) (len:=G.xs.length) (cap:=G.xs.length) (Nc c hl) (Nc c hm) h0 h1 h2 (Nat.le_refl _)
   refine aV (u:= .slice (if G.xs.length=l.toNat then some ⟨G.g,0,none⟩else(some (⟨G.g,0,none⟩:Addr)).map (·.add (l.toNat * inf.size))) (m.toNat - l.toNat) (G.xs.length - l.toNat)) (w':=w) ?_ (hC _ _ w hX ?_ hp)
   ·have BT:a.eval (.global G.g)= .pointer (some ⟨G.g,0,none⟩):=rfl
    simp only [execOp,BT,Option.map_none]
    simp only [Instr.sliceAt,Sem.run_bind,run_underlying hT,Result.andThen_ok,Instr.sureAddr,Sem.run_pure,hr,sizeOf,typeInfo,GC]
    split <;> simp_all
   ·simp only [one,SV.conc,V1.conc,Cell.conc]
    rw [jH _ _ (ZS hpart)]
  ·cases h
 ·cases h
end
end Go.SX
namespace Go.SX
open Go.RowKit
def ibs(s:ByteArray)(c:Int):Int:=Go.Lib.indexByte s.data.toList c.toNat.toUInt8
theorem awF{fn:Func}(h:fn.name= "internal/bytealg.IndexByteString"):Extern.find fn=some Extern.BytealgIndexByte.indexByte:=by
 obtain⟨name⟩:=fn
 simp only at h
 subst h
 unfold Extern.find
 kernel_rfl
def avx(P:Program)(k:FuncId):Bool:=
 match P.funcs[k]? with
 |some fn=>(fn.name== "internal/bytealg.IndexByteString")&&fn.body.isNone&&(Extern.findNext fn).isNone
 |none=>false
def ax4(P:Program)(look:Nat→Option SS)(A:List (Nat×Bool))(f:Operand)(args:List Operand):Option Raw:=
 match evC look A f,args with
 |some (.val (.func (.func k) fi ca)),[x,y]=>match fi.toList,ca.toList,evC look A x,evC look A y with
  | [],[],some (.val (.string s)),some (.val (.int .u8 c))=>bif avx P k then some (.ofV (one (.val (.int .i64 (ibs s c)))))else none
  |_,_,_,_=>none
 |_,_=>none
theorem axL{P:Program}{k:FuncId}(h:avx P k=true)(s:ByteArray)(c:Int)(w:World):
  (callFunc k #[.string s,.int .u8 c]).run P w= .ok (.value (.int .i64 (ibs s c))) w:=by
 unfold avx at h
 split at h
 ·rename_i fn hf
  simp only [Bool.and_eq_true,beq_iff_eq]at h
  obtain⟨⟨h1,h2⟩,h3⟩:=h
  rw [run_callFunc_indexByte hf (by rw [h1];decide) h2 (Option.isNone_iff_eq_none.1 h3) (awF h1),Go.Lib.run_indexByteString]
  rfl
 ·cases h
section
variable{P:Program}{tbl:List (PF P)}{s:St}{look:Nat→Option SS}{ent:Nat→Option Entry}{A:List (Nat×Bool)}{nid:Nat}{o:Oper}{r:Raw}{B:Base}{ρ:Nm}{a:Act}{w:World}{K:Act→World→Prop}{Q:Exit→Act→World→Prop}
theorem aux(c:Ctx B ρ s a w look ent A){cl:Call}{f:Operand}(ho:o.op= .call cl)(hf:cl.callee= .value f)(h:ax4 P look A f cl.args.toList=some r)
  (hC:qI B s ρ r o a K):o.wp P a w K Q:=by
 obtain⟨dst,op,ty,pos,after,guard⟩:=o
 simp only at ho;subst ho
 unfold ax4 at h
 split at h
 ·rename_i k fi ca x y hk TC
  split at h
  ·rename_i str v h1 h2 hx hy
   have e1:fi= #[]:=by rw [← Array.toArray_toList (xs:=fi),h1]
   have e2:ca= #[]:=by rw [← Array.toArray_toList (xs:=ca),h2]
   subst e1;subst e2
   cases qJ:avx P k with
   |false=>simp [qJ]at h
   |true=>
    simp only [qJ,cond_true]at h
    cases h
    have hkv:=(c.evC hk).1
    have BT:=(c.evC hx).1
    have XZ:=(c.evC hy).1
    simp only [Cell.conc]at hkv BT XZ
    have OZ:cl.args.map a.eval= #[.string str,.int .u8 v]:=by
     rw [← Array.toArray_toList (xs:=cl.args.map a.eval),Array.toList_map,TC];simp [BT,XZ]
    refine aV (w':=w) ?_ (qI.same (v:=one (.val (.int .i64 (ibs str v)))) rfl hC c.hp)
    simp [execOp,resolve,hf,Deferred.ofValue,hkv,invoke,OZ,axL qJ,one,SV.conc,V1.conc,Cell.conc]
  ·cases h
 ·cases h
end
end Go.SX
namespace Go.SX
open Go.RowKit
def amX(P:Program)(S D:TypeId):Bool:=
 match P.underlying S,P.underlying D with
 |some (.slice e),some .string=>match P.underlying e with
  |some (.int .u8)=>true
  |_=>false
 |_,_=>false
def ayk(P:Program)(look:Nat→Option SS)(ent:Nat→Option Entry)(A:List (Nat×Bool))(S D:TypeId)(x:Operand):Option Raw:=
 match evC look A x with
 |some (.ref id)=>match ent id with
  |some (.row _ _ (.int .u8) xs)=>bif amX P S D then some (.ofV (one (.val (.string (strOfNums xs)))))else none
  |_=>none
 |_=>none
def PF.raw(P:Program):PF P where
 k:=999997
 F:=fun _ _=>none
 ok:=fun _ _ _ h=>by cases h
def PF.rawed{P:Program}:List (PF P)→Bool
 | []=>false
 |p::_=>Nat.beq p.k 999997
def ayd(fr:Bool)(look:Nat→Option SS)(A:List (Nat×Bool))(x:Operand):Option Raw:=
 bif fr then(match x,ev look A x with
  | .tmp _,some (.one v)=>some (Raw.ofV (.one v))
  |_,_=>none)else none
def PF.viewed{P:Program}:List (PF P)→Bool
 | []=>false
 |p::_=>Nat.beq p.k 999996
def axd(fr:Bool)(P:Program)(look:Nat→Option SS)(ent:Nat→Option Entry)(A:List (Nat×Bool))(T:TypeId)(x:Operand)(lo hi mx:Option Operand):Option Raw:=
 bif fr then(match mx,hi,lo,evC look A x with
  |none,none,some y,some (.ref id)=>match ent id,evI look A y with
   |some (.row true _ t xs),some l=>bif YC P T t then some ⟨one (.vw id t.size l.toNat),[],[],[decide (0≤l),decide (l≤xs.length)]⟩else none
   |_,_=>none
  |_,_,_,_=>none)else none
def ax0(look:Nat→Option SS)(A:List (Nat×Bool))(op:BinOp)(x y:Operand):Option Raw:=
 match op,evC look A x,evC look A y with
 | .add,some (.val (.string s)),some (.val (.string t))=>some ⟨one (.val (.string (s++t))),[],[],[decide (s.size + t.size≤9223372036854775807)]⟩
 |_,_,_=>none
def ajj(n:Nat):List (E (.int .i64)):=List.replicate n (0:Int)
theorem afY(n:Nat):(ajj n).length=n:=List.length_replicate
def auu(P:Program)(look:Nat→Option SS)(ent:Nat→Option Entry)(A:List (Nat×Bool))(ts:Array TypeId)(x:Operand):Option Raw:=
 match evC look A x,ts.toList with
 |some (.ref id),[T]=>match ent id,P.underlying T with
  |some (.row true e (.int .i64) xs),some (.slice e')=>match P.info? e' with
   |some inf=>match inf.zero with
    |some (.int .i64 0)=>some ⟨.tup [],[(id,.row true e (.int .i64) (ajj xs.length))],[],[]⟩
    |_=>none
   |none=>none
  |_,_=>none
 |_,_=>none
section
variable{P:Program}{tbl:List (PF P)}{s:St}{look:Nat→Option SS}{ent:Nat→Option Entry}{A:List (Nat×Bool)}{nid:Nat}{o:Oper}{r:Raw}{B:Base}{ρ:Nm}{a:Act}{w:World}{K:Act→World→Prop}{Q:Exit→Act→World→Prop}
theorem auz{α:Type}{xs:List α}{i:Nat}{d x:α}(h:xs[i]? =some x):x=xs.getD i d:=by rw [List.getD_eq_getElem?_getD,h];rfl
theorem axM{S D:TypeId}(hT:amX P S D=true){own:Bool}{id:Nat}{e:TypeId}{xs:List (E (.int .u8))}(hh:(Entry.row own e (.int .u8) xs).holds B ρ w id)
  (hf: ∀ b o,ρ.mem b=some o→w.heap[b]? =some o):(convert S D (ρ id)).run P w= .ok (.string (strOfNums xs)) w:=by
 unfold amX at hT
 split at hT
 ·rename_i e' hS hD
  split at hT
  ·rename_i he
   have tS:anE (ρ id)∧xs= []∨ ∃ b off cap,ρ id= .slice (some ⟨b,off,none⟩) xs.length cap:=by
    cases own with
    |false=>
     rcases hh with⟨h4,hn⟩ | ⟨b,off,cap,arr,T',fz,h4,_⟩
     ·exact .inl ⟨h4,hn⟩
     ·exact .inr ⟨_,_,_,h4⟩
    |true=>
     obtain⟨cs,h4,_⟩:=hh
     rcases h4.2 with⟨hv,hn⟩ | ⟨g,cap,cur,hv,_⟩
     ·exact .inl ⟨hv,List.eq_nil_of_length_eq_zero hn⟩
     ·exact .inr ⟨_,_,_,hv⟩
   rcases tS with⟨hz,hn⟩ | ⟨b,off,cap,hv⟩
   ·have e0:strOfNums xs=ByteArray.empty:=by rw [hn];rfl
    rw [e0]
    rcases hz with hz | ⟨d,hz⟩
    ·rw [hz];exact run_convert_bytes_nil w S e' hS he 0 0 D hD
    ·rw [hz,run_convert_bytes_string w S D e' (some d) 0 0 hS he hD]
     exact run_bytesToString w d 0 0 [] (run_loadCells_list w d [] (fun j v hj=>by simp at hj))
   ·rw [hv]
    refine run_convert_bytes_arg w S e' hS he b off xs.length cap xs rfl (fun i hi=> ?_) D hD
    have hx:xs[i]? =some xs[i]:=List.getElem?_eq_getElem hi
    obtain⟨chunk,hr,hc⟩:=ar4 hh hf hx
    simp only [Rep]at hr
    have:=hc 0 (.int .u8 xs[i]) (by rw [hr];rfl)
    rw [hv]at this
    simp only [YB,anb,CTy.size,Nat.mul_one,Nat.add_zero]at this
    rw [this]
    exact congrArg some (congrArg (Value.int .u8) (auz (α:=Int) hx))
  ·cases hT
 ·cases hT
theorem avh(c:Ctx B ρ s a w look ent A){S D:TypeId}{x:Operand}(ho:o.op= .convert S D x)(h:ayk P look ent A S D x=some r)
  (hC:qI B s ρ r o a K):o.wp P a w K Q:=by
 obtain⟨dst,op,ty,pos,after,guard⟩:=o
 simp only at ho;subst ho
 unfold ayk at h
 split at h
 ·rename_i id hx
  split at h
  ·rename_i own e xs he
   cases hT:amX P S D with
   |false=>simp [hT]at h
   |true=>
    simp only [hT,cond_true]at h
    cases h
    have BT:=(c.evC hx).1
    simp only [Cell.conc]at BT
    obtain⟨hh,_,_⟩:=c.hp.he _ _ (c.hE _ _ he)
    refine aV (w':=w) ?_ (qI.same (v:=one (.val (.string (strOfNums xs)))) rfl hC c.hp)
    simp [execOp,BT,axM hT hh c.hp.hf.dat,one,SV.conc,V1.conc,Cell.conc]
  ·cases h
 ·cases h
def aoy(P:Program)(look:Nat→Option SS)(A:List (Nat×Bool))(T:TypeId)(x:Operand)(lo hi mx:Option Operand):Option Raw:=
 match mx,evC look A x with
 |none,some (.val (.slice none 0 0))=>match bnd look A lo 0,bnd look A hi 0,P.underlying T with
  |some l,some h,some (.slice e)=>match P.info? e with
   |some _=>some ⟨one (.val (.slice none 0 0)),[],[],[decide (0≤l),decide (l≤h),decide (h≤0)]⟩
   |none=>none
  |_,_,_=>none
 |_,_=>none
theorem apC(c:Ctx B ρ s a w look ent A){T:TypeId}{x:Operand}{lo hi mx:Option Operand}(ho:o.op= .slice T x lo hi mx)(h:aoy P look A T x lo hi mx=some r)
  (bz: ∀ b∈r.nd,b=true) (hC:qI B s ρ r o a K):o.wp P a w K Q:=by
 obtain⟨dst,op,ty,pos,after,guard⟩:=o
 simp only at ho;subst ho
 unfold aoy at h
 split at h
 ·rename_i hx
  split at h
  ·rename_i l m e hl hm hT
   split at h
   ·rename_i inf GC
    cases h
    have h0:0≤l:=by simpa using bz (decide (0≤l)) (by simp)
    have h1:l≤m:=by simpa using bz (decide (l≤m)) (by simp)
    have h2:m≤0:=by simpa using bz (decide (m≤0)) (by simp)
    have BT:=(c.evC hx).1
    simp only [Cell.conc]at BT
    have hm':bnd look A hi ((0:Nat):Int)=some m:=hm
    have hr:=acv (P:=P) (w:=w) (b:=none) (len:=0) (cap:=0) hT GC (Nc c hl) (Nc c hm') h0 h1 (by simpa using h2) (Nat.le_refl _)
    obtain rfl:l=0:=by omega
    obtain rfl:m=0:=by omega
    refine aV (w':=w) ?_ (qI.same (v:=one (.val (.slice none 0 0))) rfl hC c.hp)
    simp only [Int.toNat_zero]at hr
    simp [execOp,BT,hr,one,SV.conc,V1.conc,Cell.conc]
   ·cases h
  ·cases h
 ·cases h
def asi(P:Program)(look:Nat→Option SS)(ent:Nat→Option Entry)(A:List (Nat×Bool))(nid:Nat)(ts:Array TypeId)(x y:Operand):Option Raw:=
 match evC look A x,evC look A y,ts.toList with
 |some (.val (.slice none 0 0)),some (.ref jd),[t1,t2]=>match ent jd with
  |some (.row _ _ t ys)=>match P.underlying t1 with
   |some (.slice e)=>match P.info? e with
    |some inf=>match inf.zero with
     |some z=>bif Nat.beq t1 t2&&Nat.beq inf.size t.size&&Nat.beq z.cells.size t.size then
       some ⟨one (.ref nid),[(nid,.row true e t ys)],[nid],[decide (ys.length≤9223372036854775807),decide (ys.length * inf.bytes≤140737488355328)]⟩
      else none
     |none=>none
    |none=>none
   |_=>none
  |_=>none
 |_,_,_=>none
theorem aq9(c:Ctx B ρ s a w look ent A){cl:Call}{x y:Operand}(ho:o.op= .call cl)(hb:cl.callee= .builtin .append)(TC:cl.args.toList= [x,y])(h:asi P look ent A nid cl.argTypes x y=some r)(ne: ∀ i∈r.new,s.used i=false)
  (bz: ∀ b∈r.nd,b=true) (hC:qI B s ρ r o a K):o.wp P a w K Q:=by
 obtain⟨dst,op,ty,pos,after,guard⟩:=o
 simp only at ho;subst ho
 have OZ:cl.args= #[x,y]:=by rw [← Array.toArray_toList (xs:=cl.args),TC]
 unfold asi at h
 split at h
 ·rename_i jd t1 t2 hx hy hts
  split at h
  ·rename_i own e2 t ys he2
   split at h
   ·rename_i e hT
    split at h
    ·rename_i inf GC
     split at h
     ·rename_i z hz
      cases qJ:(Nat.beq t1 t2&&Nat.beq inf.size t.size&&Nat.beq z.cells.size t.size)with
      |false=>simp [qJ]at h
      |true=>
       simp only [qJ,cond_true]at h
       cases h
       simp only [Bool.and_eq_true]at qJ
       obtain⟨⟨k1,k3⟩,k4⟩:=qJ
       have k1:=Nat.eq_of_beq_eq_true k1
       have k3:=Nat.eq_of_beq_eq_true k3
       have k4:=Nat.eq_of_beq_eq_true k4
       subst k1
       have n1:ys.length≤9223372036854775807:=by simpa using bz (decide (ys.length≤9223372036854775807)) (by simp)
       have n2:ys.length * inf.bytes≤140737488355328:=by simpa using bz (decide (ys.length * inf.bytes≤140737488355328)) (by simp)
       have hat:cl.argTypes= #[t1,t1]:=by rw [← Array.toArray_toList (xs:=cl.argTypes),hts]
       have BT:=(c.evC hx).1
       have XZ:=(c.evC hy).1
       simp only [Cell.conc]at BT XZ
       obtain⟨hh2,_,_⟩:=c.hp.he _ _ (c.hE _ _ he2)
       have hun:s.used nid=false:=ne nid (by simp)
       have h0:OD w e t.size (.slice none 0 0) 0 []:=aeY w e t.size
       have fin: ∀ v' w' cs',(Builtin.append_ #[t1,t1] ty #[.slice none 0 0,ρ jd]).run P w= .ok v' w'→OD w' e t.size v' ys.length cs'→rW ρ.mem t cs' ys→Chg w w' (fun k=>k∈ka (.slice none 0 0))→(∀ b∈ka v',w.heap.size≤b∨b∈ka (.slice none 0 0))→
         Oper.wp P ⟨dst,.call cl,ty,pos,after,guard⟩ a w K Q:=by
        intro v' w' cs' hr vP GG hg hbl
        obtain⟨hX,hp⟩:=c.hp.rowNew hun ⟨hg.os,hg.tape,hg.output,hg.size,fun k hk _=>hg.block k hk (by simp [ka])⟩ vP GG (fun b hb=>(hbl b hb).elim id (fun h=>by simp [ka]at h))
        refine aV (u:=v') (w':=w') ?_ (hC _ v' w' hX ?_ hp)
        ·simp [execOp,resolve,hb,invoke,builtin,OZ,BT,XZ,hat,hr]
        ·simp only [one,SV.conc,V1.conc,Cell.conc]
         rw [jH _ _ (wH vP)]
       rcases ZV hh2 c.hp.hf.dat with⟨hv,hn⟩ | ⟨b,off,cap,news,hv,GG,TD,hcm,hcells⟩
       ·subst hn
        rcases hv with hv | ⟨b,hv⟩
        ·have hr:=Sz (P:=P) (w:=w) t1 ty e inf t.size hT GC (.slice none 0 0) 0 [] h0
         rw [← hv]at hr
         exact fin _ _ [] (by rw [hv]at hr ⊢;exact hr) (by simpa using h0) (rW.nil _ _) (Chg.refl _ _) fun b hb=>by simp [ka]at hb
        ·obtain⟨v',w',hr,g1,g2,g3⟩:=FL (P:=P) t1 ty e inf z t.size inf.bytes hT GC hz k3 rfl k4 (HG t) (.slice none 0 0) 0 [] h0 b 0 0 [] (by simp) (fun j u hj=>by simp at hj) (fun u hu=>by simp at hu) (Kh (by simp)) (by simp)
         rw [← hv]at hr
         exact fin _ _ _ hr (by simpa using g1) (by simpa using rW.nil ρ.mem t) g2 g3
       ·obtain⟨v',w',hr,g1,g2,g3⟩:=FL (P:=P) t1 ty e inf z t.size inf.bytes hT GC hz k3 rfl k4 (HG t) (.slice none 0 0) 0 [] h0 ⟨b,off,none⟩ ys.length cap news GG.1 hcells GG.cell_one (Kh (by omega)) (by simpa using n2)
        rw [← hv]at hr
        refine fin _ _ _ hr (by simpa using g1) (by simpa using GG) g2 g3
     ·cases h
    ·cases h
   ·cases h
  ·cases h
 ·cases h
def aoA(tr:Bool)(P:Program)(look:Nat→Option SS)(ent:Nat→Option Entry)(A:List (Nat×Bool))(nid:Nat)(T:TypeId)(x y:Operand):Option Raw:=
 bif tr then
  match evC look A x,evC look A y with
  |some (.ptr id off),some (.val (.slice none 0 0))=>match ent id with
   |some (.box U cs)=>
    let f:=Nv P true T nid ⟨false,[.val (.slice none 0 0)]⟩
    bif SO P T off cs.length f.v.cs then some ⟨asY,(id,.box U (cs.take off++f.v.cs++cs.drop (off + f.v.cs.length)))::f.es,tg f.es,[]⟩else none
   |_=>none
  |_,_=>none
 else none
theorem apD(c:Ctx B ρ s a w look ent A){tr:Bool}{T:TypeId}{x y:Operand}(ho:o.op= .store T x y)(h:aoA tr P look ent A nid T x y=some r)(ne: ∀ i∈r.new,s.used i=false)
  (hC:qI B s ρ r o a K):o.wp P a w K Q:=by
 obtain⟨dst,op,ty,pos,after,guard⟩:=o
 simp only at ho;subst ho
 unfold aoA at h
 cases tr with
 |false=>cases h
 |true=>
  simp only [cond_true]at h
  split at h
  ·rename_i id off hx hy
   split at h
   ·rename_i U cs he
    cases qJ:SO P T off cs.length (Nv P true T nid ⟨false,[.val (.slice none 0 0)]⟩).v.cs with
    |false=>simp [qJ]at h
    |true=>
     simp only [qJ,cond_true]at h
     cases h
     have Uw:=c.hE _ _ he
     have BT:=(c.evC hx).1
     have XZ:=(c.evC hy).1
     simp only [Cell.conc]at XZ
     obtain⟨ρ',hX,_,hp,_,_,hcc⟩:=afA (P:=P) (tr:=true) (T:=T) (n:=nid) (v:=⟨false,[.val (.slice none 0 0)]⟩) c.hp (by intro c hc;simp only [List.mem_singleton]at hc;subst hc;trivial) ne
     have mL:=(c.hp.he _ _ Uw).2.1
     have hlk:look? (Nv P true T nid ⟨false,[.val (.slice none 0 0)]⟩).es id=none:=by
      cases hl:look? (Nv P true T nid ⟨false,[.val (.slice none 0 0)]⟩).es id with
      |none=>rfl
      |some e=>
       have:=ne id (aqe hl)
       rw [mL]at this;cases this
     have hent':bL s.ent (Nv P true T nid ⟨false,[.val (.slice none 0 0)]⟩).es id=some (.box U cs):=by simp only [bL,hlk,Uw]
     obtain⟨⟨b,h1,h2,_⟩,_,Qt⟩:=hp.he _ _ hent'
     have hnid:ρ' id=ρ id:=hX.nm id mL
     have hvc:(Value.slice none 0 0).cells=((Nv P true T nid ⟨false,[.val (.slice none 0 0)]⟩).v.cs.map (Cell.conc ρ')).toArray:=by rw [hcc];rfl
     have hr:=afR (P:=P) (ρ:=ρ') (w:=w) (b:=b) (off:=off) (v:= .slice none 0 0) qJ (fun h=>by simpa using h) hvc h2
     obtain⟨hX2,hp2⟩:=hp.setBox hent' (ns:=cs.take off++(Nv P true T nid ⟨false,[.val (.slice none 0 0)]⟩).v.cs++cs.drop (off + (Nv P true T nid ⟨false,[.val (.slice none 0 0)]⟩).v.cs.length)) (fun c' hc=>by
      simp only [List.append_assoc,List.mem_append]at hc
      rcases hc with hc | hc | hc
      ·exact Qt c' (List.mem_of_mem_take hc)
      ·exact atl (U:=bT s.used (tg (Nv P true T nid ⟨false,[.val (.slice none 0 0)]⟩).es)) (by intro c hc;simp only [List.mem_singleton]at hc;subst hc;trivial) (fun i hi=>LG hi) c' hc
      ·exact Qt c' (List.mem_of_mem_drop hc))
     have hbk:YB (ρ' id)=b:=by rw [h1];rfl
     rw [hbk]at hp2
     rw [anj,← hnid,hbk]at BT
     refine afX (w':=w.setRow b ((cs.take off++(Nv P true T nid ⟨false,[.val (.slice none 0 0)]⟩).v.cs++cs.drop (off + (Nv P true T nid ⟨false,[.val (.slice none 0 0)]⟩).v.cs.length)).map (Cell.conc ρ')).toArray) ?_
      (hC ρ' _ _ hX (SV.conc_ofValue ρ' undef).symm (by rw [LM]at hp2;exact hp2))
     have hr':(storeVar T ⟨b,off,none⟩ (.slice none 0 0)).run P w= .ok () (w.setRow b ((cs.take off++(Nv P true T nid ⟨false,[.val (.slice none 0 0)]⟩).v.cs++cs.drop (off + (Nv P true T nid ⟨false,[.val (.slice none 0 0)]⟩).v.cs.length)).map (Cell.conc ρ')).toArray):=by
      rw [hr];simp [List.map_take,List.map_drop]
     simp [execOp,Instr.storeAt,BT,XZ,Instr.sureAddr,hr']
   ·cases h
  ·cases h
theorem auX(c:Ctx B ρ s a w look ent A){fr:Bool}{x:Operand}(ho:o.op= .move x)(h:ayd fr look A x=some r)
  (hC:qI B s ρ r o a K):o.wp P a w K Q:=by
 obtain⟨dst,op,ty,pos,after,guard⟩:=o
 simp only at ho;subst ho
 unfold ayd at h
 cases fr with
 |false=>cases h
 |true=>
  simp only [cond_true]at h
  split at h
  ·rename_i t v hx
   cases h
   have BT:=(c.ev hx).1
   refine aV (w':=w) ?_ (qI.same (v:= .one v) rfl hC c.hp)
   simp [execOp,BT,Sem.run_pure]
  ·cases h
theorem aud(c:Ctx B ρ s a w look ent A){fr:Bool}{T:TypeId}{x:Operand}{lo hi mx:Option Operand}(ho:o.op= .slice T x lo hi mx)(h:axd fr P look ent A T x lo hi mx=some r)
  (bz: ∀ b∈r.nd,b=true) (hC:qI B s ρ r o a K):o.wp P a w K Q:=by
 obtain⟨dst,op,ty,pos,after,guard⟩:=o
 simp only at ho;subst ho
 unfold axd at h
 cases fr with
 |false=>cases h
 |true=>
  simp only [cond_true]at h
  split at h
  ·rename_i y id hx
   split at h
   ·rename_i e t xs l he hl
    cases qJ:YC P T t with
    |false=>simp [qJ]at h
    |true=>
     simp only [qJ,cond_true]at h
     cases h
     unfold YC at qJ
     split at qJ
     ·rename_i e' hT
      split at qJ
      ·rename_i inf GC
       have WR:=Nat.eq_of_beq_eq_true qJ
       have h0:0≤l:=by simpa using bz (decide (0≤l)) (by simp)
       have h1:l≤xs.length:=by simpa using bz (decide (l≤(xs.length:Int))) (by simp)
       obtain⟨hh,_,_⟩:=c.hp.he _ _ (c.hE _ _ he)
       have BT:=(c.evC hx).1
       simp only [Cell.conc]at BT
       have hsl: ∃ b cap,ρ id= .slice b xs.length cap∧xs.length≤cap:=by
        rcases ZV hh c.hp.hf.dat with⟨hv,hn⟩ | ⟨b,off,cap,news,hv,_,TD,_⟩
        ·subst hn;obtain⟨b0,hb0⟩:=aff hv;exact⟨b0,0,hb0,Nat.le_refl _⟩
        ·exact⟨_,cap,hv,TD⟩
       obtain⟨b,cap,hv,TD⟩:=hsl
       have hb:bnd look A (some y) 0=some l:=hl
       have hr:=acv (P:=P) (w:=w) (b:=b) (len:=xs.length) (cap:=cap) (hi:=none) (h:=xs.length) hT GC (Nc c hb) (.inl ⟨rfl,rfl⟩) h0 h1 (Int.le_refl _) TD
       refine aV (w':=w) ?_ (qI.same (v:=one (.vw id t.size l.toNat)) rfl hC c.hp)
       simp only [execOp,BT,hv,one,SV.conc,V1.conc,Cell.conc,vwN,ZO]
       rw [WR]at hr
       simp only [Option.map_none,Sem.run_bind,hr,Result.andThen_ok,Sem.run_pure,Int.toNat_natCast]
      ·cases qJ
     ·cases qJ
   ·cases h
  ·cases h
theorem au0(H:Nat→Option Obj)(n:Nat):rW H (.int .i64) (List.replicate n (Value.int .i64 0)) (ajj n):=by
 refine⟨by rw [afY,List.length_replicate];exact(Nat.mul_one _).symm,fun i y hy=> ?_⟩
 have hy2:(List.replicate n (0:Int))[i]? =some y:=hy
 obtain⟨dd,hye⟩:=List.getElem?_eq_some_iff.1 hy2
 have hl:i < (List.replicate n (Value.int .i64 0)).length:=by simpa using dd
 have h0:(0:Int)=y:=by rw [← hye];exact(List.getElem_replicate _).symm
 simp only [Rep,CTy.size,Nat.mul_one]
 rw [List.drop_eq_getElem_cons hl,List.take_succ_cons,List.take_zero,List.getElem_replicate]
 exact congrArg (fun y=> [Value.int .i64 y]) h0
theorem aso(c:Ctx B ρ s a w look ent A){cl:Call}{x:Operand}(ho:o.op= .call cl)(hb:cl.callee= .builtin .clear)(TC:cl.args.toList= [x])(h:auu P look ent A cl.argTypes x=some r)
  (hC:qI B s ρ r o a K):o.wp P a w K Q:=by
 obtain⟨dst,op,ty,pos,after,guard⟩:=o
 simp only at ho;subst ho
 have OZ:cl.args= #[x]:=by rw [← Array.toArray_toList (xs:=cl.args),TC]
 unfold auu at h
 split at h
 ·rename_i id T hx hts
  have hat:cl.argTypes= #[T]:=by rw [← Array.toArray_toList (xs:=cl.argTypes),hts]
  split at h
  ·rename_i e xs e' he hT
   split at h
   ·rename_i inf GC
    split at h
    ·rename_i hz
     cases h
     have Uw:=c.hE _ _ he
     obtain⟨⟨cs,h1,h2,h3⟩,mL,_⟩:=c.hp.he _ _ Uw
     have BT:=(c.evC hx).1
     simp only [Cell.conc]at BT
     have hzero: ∀ w',(zeroValue e').run P w'= .ok (.int .i64 0) w':=fun w'=>by simp [zeroValue,typeInfo,GC,hz]
     have tS:(ajj xs.length).length=xs.length:=afY _
     have fin: ∀ W cs',(Builtin.clear_ #[T] ty #[ρ id]).run P w= .ok (.tuple #[]) W→OD W e (CTy.int IntKind.i64).size (ρ id) (ajj xs.length).length cs'→rW ρ.mem (.int .i64) cs' (ajj xs.length)→Chg w W (fun k=>k∈ka (ρ id))→
       Oper.wp P ⟨dst,.call cl,ty,pos,after,guard⟩ a w K Q:=by
      intro W cs' hr vP GG hg
      obtain⟨hX,hp⟩:=c.hp.rowSet (xs':=ajj xs.length) Uw hg vP GG
      refine aV (u:= .tuple #[]) (w':=W) ?_ (hC ρ _ W hX rfl (by simpa [aq5] using hp))
      simp [execOp,resolve,hb,invoke,builtin,OZ,hat,BT,hr]
     have GG:rW ρ.mem (.int .i64) (List.replicate xs.length (Value.int .i64 0)) (ajj xs.length):=au0 _ _
     rcases h1.2 with⟨hv,hn⟩ | ⟨g,cap,cur,hv,hc0,hg,TD,hcm,WR,htk⟩
     ·have hn:xs.length=0:=hn
      have Up:cs= []:=List.length_eq_zero_iff.1 (by rw [h1.1,hn,Nat.zero_mul])
      have e0:ajj xs.length= []:=by rw [hn];rfl
      refine fin w [] ?_ (by rw [e0];exact⟨by simp,.inl ⟨hv,rfl⟩⟩) (by rw [e0];exact rW.nil _ _) (Chg.refl _ _)
      rcases hv with hv | ⟨d,hv⟩ <;> simp [Builtin.clear_,hv,run_underlying hT]
     ·have WR:cur.size=cap:=by rw [WR];exact Nat.mul_one _
      by_cases hn:xs.length=0
      ·have Up:cs= []:=List.length_eq_zero_iff.1 (by rw [h1.1,hn,Nat.zero_mul])
       have e0:ajj xs.length= []:=by rw [hn];rfl
       refine fin w [] ?_ (by rw [e0];rw [hn,Up]at h1;exact h1) (by rw [e0];exact rW.nil _ _) (Chg.refl _ _)
       rw [hv,hn];simp [Builtin.clear_,run_underlying hT]
      ·obtain⟨m,hm⟩: ∃ m,xs.length=m + 1:=⟨xs.length - 1,by omega⟩
       have hst:=run_storeCells_at P g 0 e (List.replicate xs.length (Value.int .i64 (0:Int))) 0 cur w hg (by simp;omega) (fun u hu=>by rw [List.eq_of_mem_replicate hu];rfl)
       obtain⟨W,hW⟩: ∃ W,W=w.setRow g (cur.toList.take 0++List.replicate xs.length (Value.int .i64 0)++cur.toList.drop (0 + xs.length)).toArray:=⟨_,rfl⟩
       have hzc:(Builtin.zeroCells (Value.int .i64 0).cells xs.length).toList=List.replicate xs.length (Value.int .i64 0):=by
        simp only [Value.cells,Builtin.zeroCells]
        apply List.ext_getElem
        ·simp
        ·intro i h1 h2
         simp [Nat.mod_one]
       refine fin W _ ?_ ?_ GG ?_
       ·rw [hv]
        rw [hm]at hst hzc hW ⊢
        have hst2:(storeCells ⟨g,0,none⟩ (List.replicate (m + 1) (Value.int .i64 0))).run P w= .ok () W:=by rw [hW];simpa using hst
        simp only [Builtin.clear_]
        simp [run_underlying hT,hzero,hzc,hst2]
       ·refine⟨by rw [afY,List.length_replicate];exact(Nat.mul_one _).symm,.inr ⟨g,cap,_,by rw [tS];exact hv,hc0,by rw [hW];exact setRow_heap w g _ _ e _ hg,by rw [tS];exact TD,hcm,?_,?_⟩⟩
        ·simp only [List.size_toArray,List.length_append,List.length_take,List.length_replicate,List.length_drop,Array.length_toList]
         show _=cap * 1
         omega
        ·show (_:List Value).take ((ajj xs.length).length * 1)=_
         rw [tS,Nat.mul_one];simp
       ·refine Chg.own (v:=ρ id) ?_ ?_
        ·rw [hv,hW]
         exact⟨rfl,rfl,rfl,by simp [World.setRow],fun k _ hk=>setRow_other w g k _ fun e=>hk (by simp [Value.ownBlock,e])⟩
        ·intro k hk
         rw [hv]at hk ⊢;simp only [Value.ownBlock,Option.some.injEq]at hk;rw [EM hc0,← hk];simp
    ·cases h
   ·cases h
  ·cases h
 ·cases h
theorem aus(c:Ctx B ρ s a w look ent A){bop:BinOp}{T T':TypeId}{x y:Operand}(ho:o.op= .binOp bop T x y T')(h:ax0 look A bop x y=some r)(bz: ∀ b∈r.nd,b=true)(hC:qI B s ρ r o a K):o.wp P a w K Q:=by
 obtain⟨dst,op,ty,pos,after,guard⟩:=o
 simp only at ho;subst ho
 unfold ax0 at h
 split at h
 ·rename_i u v hx hy
  cases h
  have hz:u.size + v.size≤9223372036854775807:=by simpa using bz (decide (u.size + v.size≤9223372036854775807)) (by simp)
  have BT:=(c.evC hx).1
  have XZ:=(c.evC hy).1
  simp only [Cell.conc]at BT XZ
  refine aV (w':=w) ?_ (qI.same (v:=one (.val (.string (u++v)))) rfl hC c.hp)
  simp [execOp,eqGuard,BT,XZ,binOp_string_add,run_string_add_sum w u v hz,one,SV.conc,V1.conc,Cell.conc]
 ·cases h
end
end Go.SX
namespace Go.SX
open Go.RowKit
section
variable{P:Program}{tbl:List (PF P)}{s:St}{look:Nat→Option SS}{ent:Nat→Option Entry}{A:List (Nat×Bool)}{nid:Nat}{o:Oper}{r:Raw}{B:Base}{ρ:Nm}{a:Act}{w:World}{K:Act→World→Prop}{Q:Exit→Act→World→Prop}
theorem akK: ∀ (n k:Nat),(be n k).Nodup
 |n,0=>List.nodup_nil
 |n,k + 1=>List.nodup_cons.2 ⟨fun h=>by
   have:=(Bd.1 (memN_mem.2 h)).1
   omega,akK (n + 1) k⟩
theorem aoO(c:Ctx B ρ s a w look ent A){k:FuncId}{args:List SV}{L:List Nat}(Qt: ∀ v∈args,v.inU s.used)(hr:(execOp a.eval o).run P w= .ok (.enter k (args.map (SV.conc ρ)).toArray) w)
  (h:avp tbl ent nid k args L=some r) (ne: ∀ i∈r.new,s.used i=false) (bz: ∀ b∈r.nd,b=true) (hC:qI B s ρ r o a K):o.wp P a w K Q:=by
 unfold avp at h
 split at h
 ·rename_i args' es0 ha hes
  split at h
  ·rename_i out kp hout
   simp only at h
   split at h
   ·rename_i v es' hv hes'
    cases hnd':aiL L with
    |false=>simp [hnd']at h
    |true=>
     simp only [hnd',cond_true]at h
     cases h
     have hn:=aiM hnd'
     have hlend:=lend (B:=B) (w:=w) c.hE c.hp hn hes
     have hc:=anP hout bz (memBig w s.ent ρ L) (subNm ρ L) w hlend
     have TC:args'.map (SV.conc (subNm ρ L))=args.map (SV.conc ρ):=
      MN ha fun x hx y hy=>SV.ren_conc (U:=s.used) (fun i j _ hj=>vM (HF hj)) (Qt x hx) hy
     rw [TC]at hc
     unfold Oper.wp;rw [hr]
     refine hc.mono fun e w' ⟨ρc,hx,he,hl,hU,hpl⟩=> ?_
     subst he
     have hl0:es0.length=L.length:=(MM hes).1
     obtain⟨ρ',hX,hren,hp⟩:=ayC (m:=out.new.length) c.hE c.hp hn hes ne (by rw [List.length_append,hl,hl0]) hx hpl hes'
     refine hC ρ' _ w' hX (SV.ren_conc hren hU hv).symm ?_
     have Zp:=aij hout bz
     have hLn:=hn
     have hMn:(L++be nid out.new.length).Nodup:=by
      refine List.nodup_append.2 ⟨hn,akK _ _,fun x hx y hy hxy=> ?_⟩
      subst hxy
      have h1:=ne x hy
      obtain⟨j,hj⟩:=List.mem_iff_getElem?.1 hx
      have hj2:j < es0.length:=by rw [hl0];exact(List.getElem?_eq_some_iff.1 hj).1
      obtain⟨i,e,q1,q2,_⟩:=Yg c.hE hes (List.getElem?_eq_getElem hj2)
      rw [hj]at q1;cases q1
      have:=(c.hp.he _ _ q2).2.1
      rw [this]at h1;cases h1
     rw [auh c.hE hMn fun q i e h1 h2 h3=>by
      simp only [Nat.zero_add,Bool.and_eq_true]at h3
      have hq:q < L.length:=Nat.le_of_ble_eq_true h3.1
      have hqk:=Zp q (memN_mem.1 h3.2)
      have hi:L[q]? =some i:=by rw [List.getElem?_append_left hq]at h1;exact h1
      have hq0:q < es0.length:=by omega
      obtain⟨e1,he1,hr1⟩:=(MM hes').2 q e h2
      rw [List.getElem?_append_left (by omega),hqk]at he1
      obtain⟨i2,q1,q2⟩:=(MM hes).2 q e1 he1
      rw [hi]at q1;cases q1
      unfold atQ at q2
      split at q2
      ·rename_i e0 he0
       have:e=e0:=Entry.ren_round (fun a b d h1 h2=>by
        have:=HF h1
        simp only [aoN]at h2
        rw [List.getElem?_append_left (List.getElem?_eq_some_iff.1 this).1,this]at h2
        exact(Option.some.inj h2).symm) q2 hr1
       rw [this];exact he0
      ·cases q2]
     exact hp
   ·cases h
  ·cases h
 ·cases h
theorem anp{k:FuncId}{args:Array Value}(h:av5 P k=true):(callFunc k args).run P w= .ok (.enter k args) w:=by
 unfold av5 at h
 split at h
 ·rename_i fn hfn
  simp only [Bool.and_eq_true,Bool.not_eq_true']at h
  obtain⟨h1,h2⟩:=h
  unfold callFunc
  have h3: ¬ fn.name= "runtime.NumGoroutine" :=by simpa using h1
  have h4:fn.body≠none:=fun e=>by rw [e]at h2;cases h2
  simp [program,Sem.run_bind,Sem.run,hfn,h3,h4]
 ·cases h
theorem aur(caps:List Nat):(ate caps).map (SV.conc ρ)=caps.map fun id=>Value.pointer (some ⟨YB (ρ id),0,none⟩):=by
 simp only [ate,List.map_map];rfl
theorem atc(c:Ctx B ρ s a w look ent A){cl:Call}{f:Operand}(ho:o.op= .call cl)(hf:cl.callee= .value f)(h:aws P tbl look ent A nid f cl.args.toList=some r)
  (ne: ∀ i∈r.new,s.used i=false) (bz: ∀ b∈r.nd,b=true) (hC:qI B s ρ r o a K):o.wp P a w K Q:=by
 obtain⟨dst,op,ty,pos,after,guard⟩:=o
 simp only at ho;subst ho
 unfold aws at h
 split at h
 ·rename_i k fi ca vs hk hvs
  split at h
  ·rename_i h1 h2
   have e1:fi= #[]:=by rw [← Array.toArray_toList (xs:=fi),h1]
   have e2:ca= #[]:=by rw [← Array.toArray_toList (xs:=ca),h2]
   subst e1;subst e2
   cases qJ:av5 P k with
   |false=>simp [qJ]at h
   |true=>
    simp only [qJ,cond_true]at h
    obtain⟨g1,g2⟩:=amP c hvs
    have hkv:=(c.evC hk).1
    simp only [Cell.conc]at hkv
    refine aoO c g2 ?_ h ne bz hC
    have OZ:cl.args.map a.eval=(vs.map (SV.conc ρ)).toArray:=by rw [← g1,← Array.toArray_toList (xs:=cl.args.map a.eval),Array.toList_map]
    simp [execOp,resolve,hf,Deferred.ofValue,hkv,invoke,OZ,anp qJ]
  ·cases h
 ·rename_i k caps vs hk hvs
  cases qJ:av5 P k with
  |false=>simp [qJ]at h
  |true=>
   simp only [qJ,cond_true]at h
   obtain⟨g1,g2⟩:=amP c hvs
   obtain⟨hkv,hku⟩:=c.evC hk
   simp only [Cell.conc]at hkv
   refine aoO c (fun v hv=> ?_) ?_ h ne bz hC
   ·rcases List.mem_append.1 hv with hv | hv
    ·exact g2 v hv
    ·simp only [ate,List.mem_map]at hv
     obtain⟨id,mL,rfl⟩:=hv
     intro x hx;simp only [List.mem_singleton]at hx;subst hx;exact hku id mL
   ·have OZ:cl.args.map a.eval=(vs.map (SV.conc ρ)).toArray:=by rw [← g1,← Array.toArray_toList (xs:=cl.args.map a.eval),Array.toList_map]
    simp [execOp,resolve,hf,Deferred.ofValue,hkv,invoke,OZ,anp qJ,aur]
 ·cases h
end
def orE{α:Type}:Option α→Option α→Option α
 |some a,_=>some a
 |none,b=>b
theorem wG{α:Type}{x y:Option α}{r:α}(h:orE x y=some r):x=some r∨y=some r:=by
 cases x with
 |none=>exact .inr h
 |some a=>exact .inl h
def opV(P:Program)(tbl:List (PF P))(look:Nat→Option SS)(ent:Nat→Option Entry)(A:List (Nat×Bool))(nid:Nat)(o:Oper):Option Raw:=
 match o.op with
 | .move x=>orE (ayd (PF.rawed tbl) look A x) (avz P (PF.treed tbl) look A nid o.type x)
 | .assign x=>avz P (PF.treed tbl) look A nid o.type x
 | .pick c x y=>awY look A c x y
 | .alloc T=>aul P (PF.treed tbl) nid T
 | .box T x=>axZ P (PF.treed tbl) look A nid T x
 | .load T x=>awV P look ent A nid T x
 | .store T x y=>orE (aoA (PF.treed tbl) P look ent A nid T x y) (avg P look ent A nid T x y)
 | .fieldAddr T x f=>alC P look A T x f
 | .field T x f=>orE (Sf P look A o) (auy P look A T x f)
 | .nilCheck x=>orE (aoe look A x) (Sf P look A o)
 | .indexAddr T x ix=>orE (alF P look ent A T x ix) (asv P look A nid T x ix)
 | .index T x ix=>orE (auM P look A T x ix) (Sf P look A o)
 | .slice T x lo hi mx=>orE (aoy P look A T x lo hi mx) <| orE (axd (PF.viewed tbl) P look ent A T x lo hi mx) (orE (au5 P look ent A nid (PF.marked tbl) T x lo hi mx) (asw P look A nid T x lo hi mx))
 | .makeFunc fn fi ca=>an7 look A fn fi ca
 | .makeSlice T l c=>alH P (PF.treed tbl) look A nid T l c
 | .buildSlice T n ps=>aii P (PF.treed tbl) look ent A nid T n ps
 | .build T ps=>orE (auo P (PF.treed tbl) look A nid T ps) (Sf P look A o)
 | .binOp op T x y _=>orE (ax2 look A op x y) (orE (ax0 look A op x y) (orE (eqV P look A op T x y) (orE (auw P look ent A op T x y) (Sf P look A o))))
 | .extract x i=>match ev look A x with
  |some (.tup vs)=>vs[i]?.map fun v=>Raw.ofV (.one v)
  |_=>none
 | .call cl=>match cl.callee,cl.args.toList with
  | .builtin .len,[x]=>orE (ax7 P look ent A cl.argTypes x) (Sf P look A o)
  | .builtin .append,[x,y]=>orE (asj P look ent A nid cl.argTypes x y) (asi P look ent A nid cl.argTypes x y)
  | .builtin .clear,[x]=>orE (auu P look ent A cl.argTypes x) (Sf P look A o)
  | .builtin _,_=>Sf P look A o
  | .value f,args=>orE (aws P tbl look ent A nid f args) (ax4 P look A f args)
  |_,_=>none
 | .select _ _=>none
 | .convert S D x=>orE (ayk P look ent A S D x) (Sf P look A o)
 |_=>Sf P look A o
section
variable{P:Program}{tbl:List (PF P)}{s:St}{look:Nat→Option SS}{ent:Nat→Option Entry}{A:List (Nat×Bool)}{nid:Nat}{o:Oper}{r:Raw}{B:Base}{ρ:Nm}{a:Act}{w:World}{K:Act→World→Prop}{Q:Exit→Act→World→Prop}
theorem arY(c:Ctx B ρ s a w look ent A)(h:opV P tbl look ent A nid o=some r)(ne: ∀ i∈r.new,s.used i=false)(bz: ∀ b∈r.nd,b=true)(hC:qI B s ρ r o a K):o.wp P a w K Q:=by
 unfold opV at h
 cases WQ:o.op <;> rw [WQ]at h <;> simp only at h
 case move x=>
  rcases wG h with h | h
  ·exact auX c WQ h hC
  ·exact ao4 c (.inl WQ) h ne hC
 case assign x=>exact ao4 c (.inr WQ) h ne hC
 case pick cc x y=>exact atO c WQ h hC
 case alloc T=>exact ash c WQ h ne hC
 case box T x=>exact aun c WQ h ne hC
 case load T x=>exact atJ c WQ h ne bz hC
 case store T x y=>
  rcases wG h with h | h
  ·exact apD c WQ h ne hC
  ·exact asX c WQ h ne bz hC
 case fieldAddr T x f=>exact anY c WQ h hC
 case field T x f=>
  rcases wG h with h | h
  ·exact vY c (fun _ _=>by simp [WQ]) h hC
  ·exact ast c WQ h hC
 case nilCheck x=>
  rcases wG h with h | h
  ·exact apo c WQ h hC
  ·exact vY c (fun _ _=>by simp [WQ]) h hC
 case indexAddr T x ix=>
  rcases wG h with h | h
  ·exact an3 c WQ h bz hC
  ·exact arc c WQ h ne bz hC
 case index T x ix=>
  rcases wG h with h | h
  ·exact asD c WQ h bz hC
  ·exact vY c (fun _ _=>by simp [WQ]) h hC
 case slice T x lo hi mx=>
  rcases wG h with h | h
  ·exact apC c WQ h bz hC
  rcases wG h with h | h
  ·exact aud c WQ h bz hC
  rcases wG h with h | h
  ·exact asT c WQ h ne bz hC
  ·exact ard c WQ h ne bz hC
 case makeFunc fn fi ca=>exact apl c WQ h hC
 case makeSlice T l m=>exact an8 c WQ h ne bz hC
 case buildSlice T n ps=>exact amJ c WQ h ne hC
 case build T ps=>
  rcases wG h with h | h
  ·exact ask c WQ h ne hC
  ·exact vY c (fun _ _=>by simp [WQ]) h hC
 case binOp bop T x y T'=>
  rcases wG h with h | h
  ·exact auv c WQ h bz hC
  ·rcases wG h with h | h
   ·exact aus c WQ h bz hC
   rcases wG h with h | h
   ·exact avP c WQ h hC
   rcases wG h with h | h
   ·exact asq c WQ h bz hC
   ·exact vY c (fun _ _=>by simp [WQ]) h hC
 case extract x i=>
  obtain⟨dst,op,ty,pos,after,guard⟩:=o
  simp only at WQ;subst WQ
  split at h
  ·rename_i vs hx
   cases hv:vs[i]? with
   |none=>simp [hv]at h
   |some v=>
    simp [hv]at h;subst h
    refine aV (u:=v.conc ρ) (w':=w) ?_ (qI.same (v:= .one v) rfl hC c.hp)
    have:=(c.ev hx).1
    simp [execOp,this,SV.conc,Instr.extract,hv]
  ·cases h
 case call cl=>
  split at h
  ·rename_i x hcl TC
   rcases wG h with h | h
   ·exact auR c WQ hcl TC h hC
   ·exact vY c (fun _ _=>by simp [WQ]) h hC
  ·rename_i x y hcl TC
   rcases wG h with h | h
   ·exact ara c WQ hcl TC h ne bz hC
   ·exact aq9 c WQ hcl TC h ne bz hC
  ·rename_i x hcl TC
   rcases wG h with h | h
   ·exact aso c WQ hcl TC h hC
   ·exact vY c (fun _ _=>by simp [WQ]) h hC
  ·exact vY c (fun _ _=>by simp [WQ]) h hC
  ·rename_i f hcl
   rcases wG h with h | h
   ·exact atc c WQ hcl h ne bz hC
   ·exact aux c WQ hcl h hC
  ·cases h
 case select=>cases h
 case convert S D x=>
  rcases wG h with h | h
  ·exact avh c WQ h hC
  ·exact vY c (fun _ _=>by simp [WQ]) h hC
 all_goals exact vY c (fun _ _=>by simp [WQ]) h hC
end
end Go.SX
