import Derived.Test.YthehiagbdgollaaGreatDoorTXA
import Derived.Laws.Slices
import Derived.Laws.Tables
import Derived.Laws.StructEq
import Derived.Laws.StandIn
import Derived.Lib.Bytealg
import Derived.Laws.BytesArg
import Derived.Laws.Concat
import Derived.Laws.CopyRow
import Derived.Laws.IdiomCopy
import Derived.Lib.AppendZeros
import Derived.MapKept
set_option linter.unusedSimpArgs false
set_option linter.unusedVariables false
open Nat renaming eq_of_beq_eq_true → q8
open Option renaming map_eq_some_iff → q9
open Option.some renaming injEq → w3
open Bool renaming and_eq_true → w4
open List renaming length_append → w5
open List renaming length_take → w6
open Array renaming toArray_toList → w7
open List renaming map_cons → w8
open List renaming length_replicate → w9
open List renaming getElem?_eq_some_iff → z6
open List renaming replicate → z7
open Nat renaming le_of_ble_eq_true → z8
open List renaming mem_singleton → j6
open List renaming length_set → j7
namespace Go.SX
open Go.RowKit
section
variable{P:Program}{tr:Bool}{s:St}{look:Nat→Option SS}{ent:Nat→Option Entry}{A:List (Nat×Bool)}{nid:Nat}{o:Oper}{r:Raw}{B:Base}{ρ:Nm}{a:Act}{w:World}{K:Act→World→Prop}{Q:Exit→Act→World→Prop}
theorem Yu{isS:Bool}{len cap:Nat}{lo hi:Option Value}{l h:Int}(hlo:(lo=none∧l=0)∨ ∃ k,lo=some (.int k l))(hhi:(hi=none∧h=len)∨ ∃ k,hi=some (.int k h))(h0:0≤l)(h1:l≤h)(h2:h≤len)(h3:len≤cap):
  (Instr.sliceBounds isS len cap lo hi none).run P w= .ok (l.toNat,h.toNat,cap) w:=by
 have e0:0≤h:=by omega
 have e1:h≤(cap:Int):=by omega
 have eh:(h.toNat:Int)=h:=Int.toNat_of_nonneg e0
 rcases hlo with⟨rfl,rfl⟩ | ⟨k,rfl⟩ <;> rcases hhi with⟨rfl,rfl⟩ | ⟨k',rfl⟩ <;>
  simp [Instr.sliceBounds,run_sliceBound,h0,h1,e0,e1,eh]
theorem Dj(c:Ctx B ρ s a w look ent A){x:Option Operand}{d l:Int}(h:bnd look A x d=some l):(x.map a.eval=none∧l=d)∨ ∃ k,x.map a.eval=some (.int k l):=by
 cases x with
 |none=>simp only [bnd,w3]at h;exact .inl ⟨rfl,h.symm⟩
 |some y=>
  simp only [bnd]at h
  obtain⟨k,hk⟩:=c.evI h
  exact .inr ⟨k,by simp [hk]⟩
theorem NM{T e:TypeId}{inf:TypeInfo}{lo hi:Option Value}{l h:Int}{b:Option Addr}{len cap:Nat}(hT:P.underlying T=some (.slice e))(vr:P.info? e=some inf)
  (hlo:(lo=none∧l=0)∨ ∃ k,lo=some (.int k l)) (hhi:(hi=none∧h=len)∨ ∃ k,hi=some (.int k h)) (h0:0≤l) (h1:l≤h) (h2:h≤len) (h3:len≤cap):
  (Instr.sliceAt T (.slice b len cap) lo hi none).run P w= .ok (.slice (if cap=l.toNat then b else b.map (·.add (l.toNat * inf.size))) (h.toNat - l.toNat) (cap - l.toNat)) w:=by
 have:=Yu (P:=P) (w:=w) (isS:=true) hlo hhi h0 h1 h2 h3
 simp [Instr.sliceAt,Instr.slice,run_underlying hT,this,sizeOf,typeInfo,vr]
theorem GO.part{H:Nat→Option Obj}{t:CTy}{v:Value}{xs:List (E t)}(h:GO H t v xs){l m z:Nat}(hl:l≤m)(hm:m≤xs.length)(hz:z=t.size){b:Option Addr}{len cap:Nat}(hv:v= .slice b len cap):
  GO H t (.slice (if cap=l then b else b.map (·.add (l * z))) (m - l) (cap - l)) ((xs.take m).drop l):=by
 subst hz
 have jw:((xs.take m).drop l).length=m - l:=by rw [List.length_drop,w6];omega
 rcases h with⟨h,hn⟩ | ⟨b',off,cap',arr,T,fz,h1,h2,h3,h4,h5⟩
 ·subst hn
  simp only [List.length_nil,Nat.le_zero_eq]at hm
  subst hm
  simp only [Nat.le_zero_eq]at hl;subst hl
  rcases h with h | ⟨b',h⟩
  ·rw [hv]at h;cases h
   exact .inl ⟨.inl (by simp),by simp⟩
  ·rw [hv]at h;cases h
   exact .inl ⟨.inr ⟨b',by simp⟩,by simp⟩
 ·rw [hv]at h1;cases h1
  by_cases hc:cap=l
  ·subst hc
   have:m=cap:=by omega
   subst this
   refine .inr ⟨b',off,0,arr,T,fz,by rw [jw];simp,by rw [jw];omega,by omega,h4,fun i x hx=> ?_⟩
   have:=(z6.1 hx).1
   rw [jw]at this;omega
  ·refine .inr ⟨b',off + l * t.size,cap - l,arr,T,fz,by rw [jw];simp [hc,yo],by rw [jw];omega,by omega,h4,fun i x hx=> ?_⟩
   have gm:=(z6.1 hx).1
   rw [List.getElem?_drop,List.getElem?_take,if_pos (by omega)]at hx
   have:=h5 _ _ hx
   rwa [Nat.add_mul,← Nat.add_assoc]at this
theorem act{e:TypeId}{t:CTy}{v:Value}{n m z:Nat}{cs:List Value}(h:CC w e t.size v n cs)(hm:m≤n){b:Option Addr}{len cap:Nat}(hv:v= .slice b len cap):
  CC w e t.size (.slice (if cap=0 then b else b.map (·.add (0 * z))) (m - 0) (cap - 0)) m (cs.take (m * t.size))∧
   fB (.slice (if cap=0 then b else b.map (·.add (0 * z))) (m - 0) (cap - 0))=fB v:=by
 have Gt:m * t.size≤n * t.size:=Nat.mul_le_mul_right _ hm
 have hl:(cs.take (m * t.size)).length=m * t.size:=by rw [w6,h.1];omega
 rcases h.2 with⟨hz,hn⟩ | ⟨g,cap',cur,h1,h2,h3,h4,h5,h6,h7⟩
 ·subst hn
  have:m=0:=by omega
  subst this
  rcases hz with hz | ⟨b',hz⟩
  ·rw [hv]at hz;cases hz
   exact⟨⟨hl,.inl ⟨.inl (by simp),rfl⟩⟩,by rw [hv];simp⟩
  ·rw [hv]at hz;cases hz
   exact⟨⟨hl,.inl ⟨.inr ⟨b',by simp⟩,rfl⟩⟩,by rw [hv];simp⟩
 ·rw [hv]at h1;cases h1
  have he:(if cap=0 then some (⟨g,0,none⟩:Addr)else(some (⟨g,0,none⟩:Addr)).map (·.add (0 * z)))=some ⟨g,0,none⟩:=by
   split
   ·rfl
   ·simp [yo]
  rw [he]
  refine⟨⟨hl,.inr ⟨g,cap,cur,rfl,h2,h3,by omega,h5,h6,?_⟩⟩,by rw [hv];rfl⟩
  rw [← h7,List.take_take,Nat.min_eq_left Gt]
theorem jY.take{H:Nat→Option Obj}{t:CTy}{cs:List Value}{xs:List (E t)}(h:jY H t cs xs){m:Nat}(hm:m≤xs.length):jY H t (cs.take (m * t.size)) (xs.take m):=by
 have Gt:m * t.size≤xs.length * t.size:=Nat.mul_le_mul_right _ hm
 refine⟨by rw [w6,w6,h.1];rw [Nat.min_eq_left Gt,Nat.min_eq_left hm],fun i x hx=> ?_⟩
 have gm:=(z6.1 hx).1
 rw [w6]at gm
 rw [List.getElem?_take,if_pos (by omega)]at hx
 have:=h.2 i x hx
 have hc:=tO (z:=t.size) (show i < m by omega)
 rw [List.drop_take,List.take_take,Nat.min_eq_left (by omega)]
 exact this
theorem aek(c:Ctx B ρ s a w look ent A){T:TypeId}{x:Operand}{lo hi mx:Option Operand}{fr:Bool}(ho:o.op= .slice T x lo hi mx)(h:agF P look ent A nid fr T x lo hi mx=some r)(jM: ∀ i∈r.new,s.used i=false)(dq: ∀ b∈r.nd,b=true)(hC:lP B s ρ r o a K):o.wp P a w K Q:=by
 obtain⟨dst,op,ty,pos,after,guard⟩:=o
 simp only at ho;subst ho
 unfold agF at h
 split at h
 ·rename_i str hx
  split at h
  ·rename_i l m hl hm hT
   cases h
   have h0:0≤l:=by simpa using dq (decide (0≤l)) (by simp)
   have h1:l≤m:=by simpa using dq (decide (l≤m)) (by simp)
   have h2:m≤str.size:=by simpa using dq (decide (m≤str.size)) (by simp)
   have sm:=(c.evC hx).1
   simp only [Cell.conc]at sm
   have hr:=Yu (P:=P) (w:=w) (isS:=false) (cap:=str.size) (Dj c hl) (Dj c hm) h0 h1 h2 (Nat.le_refl _)
   refine au (w':=w) ?_ (lP.same (v:=one (.val (.string (str.extract l.toNat m.toNat)))) rfl hC c.hp)
   simp [execOp,Instr.sliceAt,Instr.slice,run_underlying hT,sm,hr,one,SV.conc,V1.conc,Cell.conc]
  ·cases h
 ·rename_i id hx
  split at h
  ·rename_i own e t xs he
   split at h
   ·rename_i l m hl hm
    cases ii:yO P T t with
    |false=>simp [ii]at h
    |true=>
     simp only [ii,cond_true]at h
     unfold yO at ii
     split at ii
     ·rename_i e' hT
      split at ii
      ·rename_i inf vr
       have FG:=q8 ii
       have zp:=c.hE _ _ he
       obtain⟨hh,jy,_⟩:=c.hp.he _ _ zp
       have sm:=(c.evC hx).1
       simp only [Cell.conc]at sm
       have hsl: ∃ b cap,ρ id= .slice b xs.length cap∧xs.length≤cap:=by
        rcases Na hh c.hp.hf.dat with⟨hv,hn⟩ | ⟨b,off,cap,news,hv,_,Gt,_⟩
        ·subst hn;obtain⟨b0,hb0⟩:=Fy hv;exact⟨b0,0,hb0,Nat.le_refl _⟩
        ·exact⟨_,cap,hv,Gt⟩
       obtain⟨b,cap,hv,Gt⟩:=hsl
       have OE:s.used nid=false:=by
        split at h <;> cases h <;> exact jM nid (by simp)
       split at h
       ·cases h
        have h1:0≤m:=by simpa using dq (decide (0≤m)) (by simp)
        have h2:m≤xs.length:=by simpa using dq (decide (m≤xs.length)) (by simp)
        have hl0:l=0:=by simpa [bnd] using hl.symm
        subst hl0
        obtain⟨cs,g1,g2,g3⟩:=hh
        have hr:=NM (P:=P) (w:=w) (b:=b) (len:=xs.length) (cap:=cap) (lo:=none) (l:=0) hT vr (.inl ⟨rfl,rfl⟩) (Dj c hm) (Int.le_refl _) h1 h2 Gt
        obtain⟨k1,k2⟩:=act (w:=w) (z:=inf.size) (m:=m.toNat) g1 (by omega) hv
        have jw:(xs.take m.toNat).length=m.toNat:=by rw [w6];omega
        obtain⟨hX,hp⟩:=c.hp.rowTo (xs':=xs.take m.toNat) zp OE (Chg.refl _ _) (by rw [jw];exact k1) (g2.take (by omega)) fun b hb=> .inr (by rw [k2]at hb;exact hb)
        refine au (w':=w) (u:= .slice (if cap=0 then b else b.map (·.add (0 * inf.size))) (m.toNat - 0) (cap - 0)) ?_ (hC _ _ w hX ?_ hp)
        ·simp only [execOp,sm,hv,Option.map_none]
         simp only [Int.toNat_zero]at hr
         simp [hr]
        ·simp only [one,SV.conc,V1.conc,Cell.conc]
         rw [fy _ _ rfl]
       ·rename_i Oc
        cases h
        have h0:0≤l:=by simpa using dq (decide (0≤l)) (by simp)
        have h1:l≤m:=by simpa using dq (decide (l≤m)) (by simp)
        have h2:m≤xs.length:=by simpa using dq (decide (m≤xs.length)) (by simp)
        have hr:=NM (P:=P) (w:=w) (b:=b) (len:=xs.length) (cap:=cap) hT vr (Dj c hl) (Dj c hm) h0 h1 h2 Gt
        obtain⟨ρ1,n1,x1,hp1⟩:=c.hp.freezes c.hE [id]
        have hrow:GO ρ1.mem t (ρ1 id) xs:=by
         have:aZ s.ent (frz ent [id]) id=some (.row false e t xs):=by
          cases own with
          |true=>simp only [aZ,look?_frz_mem (j6.2 rfl) he]
          |false=>
           have:look? (frz ent [id]) id=none:=by simp [frz,he,look?]
           simp only [aZ,this];exact zp
         exact(hp1.he _ _ this).1
        rw [Nm.of_nm n1,hv]at hrow
        have hpart:=hrow.part (l:=l.toNat) (m:=m.toNat) (z:=inf.size) (by omega) (by omega) FG rfl
        obtain⟨hX,hp⟩:=hp1.names (ρ':=upd ρ1 nid (.slice (if cap=l.toNat then b else b.map (·.add (l.toNat * inf.size))) (m.toNat - l.toNat) (cap - l.toNat)))
         (es:= [(nid,.row false e t ((xs.take m.toNat).drop l.toNat))]) (new:= [nid]) (Ew OE _ _) rfl fun i x hl=>by
          obtain⟨rfl,rfl⟩:=look?_one hl
          refine⟨?_,by simp [bk,memN],trivial,rfl⟩
          simp only [Entry.holds]
          rw [fy _ _ rfl]
          exact hpart
        rw [yP]at hp
        refine au (u:= .slice (if cap=l.toNat then b else b.map (·.add (l.toNat * inf.size))) (m.toNat - l.toNat) (cap - l.toNat)) (w':=w) ?_ (hC _ _ w (x1.trans hX fun _ h=>h) ?_ hp)
        ·simp only [execOp,sm,hv]
         simp only [Sem.run_bind,Option.map_none,hr,Result.andThen_ok,Sem.run_pure]
        ·simp only [one,SV.conc,V1.conc,Cell.conc]
         rw [fy _ _ rfl]
      ·cases ii
     ·cases ii
   ·cases h
  ·cases h
 ·cases h
end
end Go.SX
namespace Go.SX
open Go.RowKit
section
variable{P:Program}{tr:Bool}{s:St}{look:Nat→Option SS}{ent:Nat→Option Entry}{A:List (Nat×Bool)}{nid:Nat}{o:Oper}{r:Raw}{B:Base}{ρ:Nm}{a:Act}{w:World}{K:Act→World→Prop}{Q:Exit→Act→World→Prop}
theorem adm(off:Nat): ∀ (ns:List Value) (k:Nat) (cells:List Value),off + k + ns.length≤cells.length→
  (ns.zipIdx k).foldl (fun(cs:Array Value) p=>cs.setIfInBounds (off + p.2) p.1) cells.toArray=(cells.take (off + k)++ns++cells.drop (off + k + ns.length)).toArray
 | [],k,cells,h=>by simp
 |x::ns,k,cells,h=>by
  simp only [List.length_cons]at h
  simp only [List.zipIdx_cons,List.foldl_cons,List.setIfInBounds_toArray]
  rw [adm off ns (k + 1) (cells.set (off + k) x) (by rw [j7];omega)]
  congr 1
  have hk:off + k < cells.length:=by omega
  apply List.ext_getElem?
  intro j
  simp only [List.getElem?_append,List.getElem?_take,List.getElem?_drop,List.getElem?_set,w5,w6,j7,List.length_cons]
  rw [Nat.min_eq_left (show off + (k + 1)≤cells.length by omega),Nat.min_eq_left (show off + k≤cells.length by omega)]
  by_cases h1:j < off + k
  ·simp [h1,show j < off + (k + 1) by omega,show ¬ off + k=j by omega,show j < off + (k + 1) + ns.length by omega,show j < off + k + (ns.length + 1) by omega]
  ·by_cases h2:j=off + k
   ·subst h2
    simp [show off + k < off + (k + 1) by omega,hk,show off + k < off + (k + 1) + ns.length by omega]
   ·by_cases h3:j < off + (k + 1) + ns.length
    ·simp [h1,h3,show ¬ j < off + (k + 1) by omega,show j < off + k + (ns.length + 1) by omega]
     rw [show j - (off + k)=j - (off + (k + 1)) + 1 by omega,List.getElem?_cons_succ]
    ·simp [h3,show ¬ j < off + k + (ns.length + 1) by omega,show ¬ off + k=off + (k + 1) + ns.length + (j - (off + (k + 1) + ns.length)) by omega]
     congr 1;omega
theorem Vg{pl:Nat→Option (Nat×Nat)}: ∀ {vs:List (Nat×V1)} {cells cs:List Cell},YZ pl cells vs=some cs→
  Instr.fill pl (cells.map (Cell.conc ρ)).toArray (vs.map fun p=>(p.1,p.2.conc ρ))=some (cs.map (Cell.conc ρ)).toArray
 | [],cells,cs,h=>by simp only [YZ,w3]at h;subst h;rfl
 |(i,v)::vs,cells,cs,h=>by
  simp only [YZ]at h
  split at h
  ·rename_i off size ns hp hns
   cases hb:(Nat.beq ns.length size&&Nat.ble (off + ns.length) cells.length)with
   |false=>simp [hb]at h
   |true=>
    simp only [hb,cond_true]at h
    simp only [w4]at hb
    have h1:=q8 hb.1
    have h2:=z8 hb.2
    have hc:=V1.cells?_conc ρ hns
    have ih:=Vg h
    simp only [w8,Instr.fill,hp,hc]
    have FG:(ns.map (Cell.conc ρ)).toArray.size=size:=by simp [h1]
    have Gt: ¬ (off + (ns.map (Cell.conc ρ)).toArray.size > (cells.map (Cell.conc ρ)).toArray.size):=by simp;omega
    rw [FG]at Gt
    simp only [FG,ne_eq,not_true_eq_false]
    rw [if_neg (by simpa using Gt)]
    have hf:=adm off (ns.map (Cell.conc ρ)) 0 (cells.map (Cell.conc ρ)) (by simp;omega)
    rw [← Array.foldl_toList,Array.toList_zipIdx]
    simp only [Nat.add_zero]at hf
    rw [hf]
    simpa [List.map_take,List.map_drop] using ih
  ·cases h
theorem adk{U:Nat→Bool}{pl:Nat→Option (Nat×Nat)}: ∀ {vs:List (Nat×V1)} {cells cs:List Cell},YZ pl cells vs=some cs→(∀ c∈cells,c.inU U)→(∀ p∈vs,p.2.inU U)→ ∀ c∈cs,c.inU U
 | [],cells,cs,h,hc,_=>by simp only [YZ,w3]at h;subst h;exact hc
 |(i,v)::vs,cells,cs,h,hc,hv=>by
  simp only [YZ]at h
  split at h
  ·rename_i off size ns hp hns
   cases hb:(Nat.beq ns.length size&&Nat.ble (off + ns.length) cells.length)with
   |false=>simp [hb]at h
   |true=>
    simp only [hb,cond_true]at h
    refine adk h (fun c hm=> ?_) fun p hp=>hv p (by simp [hp])
    simp only [List.append_assoc,List.mem_append]at hm
    rcases hm with hm | hm | hm
    ·exact hc c (List.mem_of_mem_take hm)
    ·exact V1.cells?_inU (hv (i,v) (by simp)) hns c hm
    ·exact hc c (List.mem_of_mem_drop hm)
  ·cases h
theorem Yf(c:Ctx B ρ s a w look ent A): ∀ {xs:List (Nat×Operand)} {vs:List (Nat×V1)},ahy look A xs=some vs→(xs.map fun p=>(p.1,a.eval p.2))=(vs.map fun p=>(p.1,p.2.conc ρ))∧ ∀ p∈vs,p.2.inU s.used
 | [],vs,h=>by simp [ahy]at h;subst h;simp
 |(i,x)::xs,vs,h=>by
  simp only [ahy]at h
  split at h
  ·rename_i v vs' h1 h2
   cases h
   obtain⟨e1,i1⟩:=c.ev1 h1
   obtain⟨e2,i2⟩:=Yf c h2
   refine⟨by simp [e1,e2],fun u hu=> ?_⟩
   rcases List.mem_cons.1 hu with rfl | hu
   ·exact i1
   ·exact i2 u hu
  ·cases h
theorem adB: ∀ (fs:List Field),(fs.all fun fd=>(P.info? fd.type).isSome)=true→ ∃ places,fs.mapM (fun f=>(P.info? f.type).map fun i=>(f.offset,i.size))=some places∧
  ∀ i,places[i]? =ZA P fs.toArray i
 | [],_=>⟨[],rfl,fun i=>by simp [ZA]⟩
 |f::fs,h=>by
  simp only [List.all_cons,w4]at h
  obtain⟨pl,h1,h2⟩:=adB fs h.2
  cases hi:P.info? f.type with
  |none=>rw [hi]at h;simp at h
  |some j=>
   refine⟨(f.offset,j.size)::pl,by simp [List.mapM_cons,hi,h1],fun i=> ?_⟩
   cases i with
   |zero=>simp [hi,ZA]
   |succ i=>simpa [ZA] using h2 i
theorem adR(c:Ctx B ρ s a w look ent A){T:TypeId}{parts:Array (Nat×Operand)}(ho:o.op= .build T parts)(h:afS P tr look A nid T parts=some r)(jM: ∀ i∈r.new,s.used i=false)(hC:lP B s ρ r o a K):o.wp P a w K Q:=by
 obtain⟨dst,op,ty,pos,after,guard⟩:=o
 simp only at ho;subst ho
 unfold afS at h
 split at h
 ·rename_i fs inf vs hT vr hvs
  split at h
  ·rename_i z hz
   split at h
   ·rename_i cs Jr
    cases RU:fs.all (fun fd=>(P.info? fd.type).isSome)with
    |false=>simp [RU]at h
    |true=>
     simp only [RU,cond_true]at h
     cases h
     obtain⟨e1,i1⟩:=Yf c hvs
     have hfl:=Vg (ρ:=ρ) Jr
     rw [OW]at hfl
     have BV:=adk Jr (fun c hc=>by obtain⟨v,_,rfl⟩:=List.mem_map.1 hc;trivial) i1
     obtain⟨places,hp1,hp2⟩:=adB (P:=P) fs.toList (by rw [← Array.all_toList]at RU;exact RU)
     have hpl:(fun i=>places.toArray[i]?)=ZA P fs:=by
      funext i
      simp only [List.getElem?_toArray,hp2]
     have hb:P.built T (parts.map fun(i,x)=>(i,a.eval x)).toList=some (cs.map (Cell.conc ρ)).toArray:=by
      simp only [Program.built,vr,hT,hz,hp1,hpl,Array.toList_map]
      rw [show (List.map (fun p:Nat×Operand=>(p.1,a.eval p.2)) parts.toList)=_ from e1]
      exact hfl
     have hr:=run_build (P:=P) w T _ _ hb
     obtain⟨ρ',hX,_,hp,Tg,_⟩:=Ta (P:=P) (tr:=tr) (T:=T) (n:=nid) (v:=⟨true,cs⟩) c.hp BV jM
     refine au (w':=w) (u:= .agg (cs.map (Cell.conc ρ)).toArray) ?_ (hC ρ' _ w hX Tg.symm hp)
     simp [execOp,hr]
   ·cases h
  ·cases h
 ·cases h
theorem MW(z:Array Value)(n:Nat):(madeCells z (n * z.size)).toList=ro (z7 n z.toList):=by
 have hl: ∀ n,(ro (z7 n z.toList)).length=n * z.size:=by
  intro n
  induction n with
  |zero=>simp [ro]
  |succ n ih=>simp only [List.replicate_succ,ro,w5,ih,Array.length_toList,Nat.add_mul,Nat.one_mul];omega
 have hg: ∀ n j,j < n * z.size→(ro (z7 n z.toList))[j]? =z.toList[j % z.size]? :=by
  intro n
  induction n with
  |zero=>intro j hj;omega
  |succ n ih=>
   intro j hj
   simp only [List.replicate_succ,ro]
   by_cases gm:j < z.size
   ·rw [List.getElem?_append_left (by simpa using gm),Nat.mod_eq_of_lt gm]
   ·rw [List.getElem?_append_right (by simpa using Nat.le_of_not_lt gm),Array.length_toList,ih _ (by rw [Nat.add_mul,Nat.one_mul]at hj;omega),← Nat.mod_eq_sub_mod (Nat.le_of_not_lt gm)]
 apply List.ext_getElem?
 intro j
 by_cases hj:j < n * z.size
 ·rw [hg n j hj]
  have hp:0 < z.size:=by
   rcases Nat.eq_zero_or_pos z.size with h0 | h0
   ·rw [h0]at hj;omega
   ·exact h0
  have hm:=Nat.mod_lt j hp
  simp [madeCells,hj,hm,getElem!_pos]
 ·rw [List.getElem?_eq_none (by rw [Array.length_toList,size_madeCells];omega),List.getElem?_eq_none (by rw [hl];omega)]
theorem jY.replicate{H:Nat→Option Obj}{t:CTy}{cs:List Value}{x:E t}(h:Rep H t cs x): ∀ n,jY H t (ro (z7 n cs)) (z7 n x)
 |0=>jY.nil _ _
 |n + 1=>by
  simp only [List.replicate_succ,ro]
  exact(jY.one h).append (jY.replicate h n)
theorem Rep.any{H H':Nat→Option Obj}(h: ∀ b o,H b=some o→H' b=some o){t:CTy}{cs:List Value}{x:E t}(hr:Rep H t cs x):Rep H' t cs x:=Rep.mono h t cs x hr
theorem ahQ{H:Nat→Option Obj}{t:CTy}{c:Cell}{xs:List (E t)}{ids:List Nat}(h:aiV (fun _=>none) t c=some (xs,ids)):GO H t (c.conc ρ) xs:=by
 unfold aiV at h
 split at h
 ·cases h
 ·cases h;exact .inl ⟨.inl rfl,rfl⟩
 ·cases h
theorem SY{H:Nat→Option Obj}: ∀ (t:CTy) (cs:List Cell) (x:E t) (ids:List Nat),AM (fun _=>none) t cs=some (x,ids)→Rep H t (cs.map (Cell.conc ρ)) x
 | .int k,cs,x,ids,hc=>by
  simp only [AM]at hc
  unfold ahE at hc
  split at hc
  ·split at hc
   ·rename_i hk;subst hk
    cases hc
    exact rfl
   ·cases hc
  ·cases hc
 | .bool,cs,x,ids,hc=>by
  simp only [AM]at hc
  unfold adc at hc
  split at hc
  ·cases hc;exact rfl
  ·cases hc
 | .str,cs,x,ids,hc=>by
  simp only [AM]at hc
  unfold ahY at hc
  split at hc
  ·cases hc;exact rfl
  ·cases hc
 | .sl e t,cs,x,ids,hc=>by
  simp only [AM]at hc
  unfold slC at hc
  split at hc
  ·simp only [Rep]
   exact⟨_,rfl,ahQ hc⟩
  ·cases hc
 | .fn,cs,x,ids,hc=>by
  simp only [AM]at hc
  simp only [Rep];exact(VQ hc).1
 | .pair a b,cs,x,ids,hc=>by
  simp only [AM]at hc
  split at hc
  ·rename_i x1 l1 y1 m1 h1 h2
   cases hc
   simp only [Rep]
   refine⟨(cs.take a.size).map (Cell.conc ρ),(cs.drop a.size).map (Cell.conc ρ),?_,SY a _ _ _ h1,SY b _ _ _ h2⟩
   rw [← List.map_append,List.take_append_drop]
  ·cases hc
end
end Go.SX
namespace Go.SX
open Go.RowKit
section
variable{P:Program}{tr:Bool}{s:St}{look:Nat→Option SS}{ent:Nat→Option Entry}{A:List (Nat×Bool)}{nid:Nat}{o:Oper}{r:Raw}{B:Base}{ρ:Nm}{a:Act}{w:World}{K:Act→World→Prop}{Q:Exit→Act→World→Prop}
theorem Zj{α:Type}: ∀ (l r:List (List α)),ro (l++r)=ro l++ro r
 | [],r=>rfl
 |a::l,r=>by simp only [List.cons_append,ro,Zj l r,List.append_assoc]
theorem uL{α:Type}(z:List α): ∀ n,(ro (z7 n z)).length=n * z.length
 |0=>by simp [ro]
 |n + 1=>by simp only [List.replicate_succ,ro,w5,uL z n,Nat.add_mul,Nat.one_mul];omega
theorem NF{α:Type}(z:List α){n m:Nat}(h:n≤m):(ro (z7 m z)).take (n * z.length)=ro (z7 n z):=by
 obtain⟨k,rfl⟩: ∃ k,m=n + k:=⟨m - n,by omega⟩
 rw [← List.replicate_append_replicate,Zj,List.take_append_of_le_length (by rw [uL];exact Nat.le_refl _),List.take_of_length_le (by rw [uL];exact Nat.le_refl _)]
theorem ads{α β:Type}(f:α→β): ∀ (l:List (List α)),(ro l).map f=ro (l.map (List.map f))
 | []=>rfl
 |a::l=>by simp only [ro,List.map_append,w8,ads f l]
theorem aai(c:Ctx B ρ s a w look ent A){T:TypeId}{l m:Operand}(ho:o.op= .makeSlice T l m)(h:Ym P tr look A nid T l m=some r)(jM: ∀ i∈r.new,s.used i=false)(dq: ∀ b∈r.nd,b=true)(hC:lP B s ρ r o a K):o.wp P a w K Q:=by
 obtain⟨dst,op,ty,pos,after,guard⟩:=o
 simp only at ho;subst ho
 unfold Ym at h
 split at h
 ·rename_i n k e hl hm hT
  split at h
  ·rename_i inf t vr ht
   split at h
   ·rename_i z hz
    split at h
    ·rename_i x0 ids Rt
     cases ii:(Nat.beq inf.size t.size&&Nat.beq z.cells.size t.size)with
     |false=>simp [ii]at h
     |true=>
      simp only [ii,cond_true]at h
      simp only [w4]at ii
      have k1:=q8 ii.1
      have k2:=q8 ii.2
      cases htr:(tr&& !t.flat)with
      |true=>
       rw [htr]at h
       simp only [cond_true]at h
       split at h
       ·rename_i y0 ids' hcl'
        cases h
        have n0:0≤n:=by simpa using dq (decide (0≤n)) (by simp)
        have n1:n≤k:=by simpa using dq (decide (n≤k)) (by simp)
        have n2:(inf.bytes:Int) * k≤281474976710656:=by simpa using dq (decide ((inf.bytes:Int) * k≤281474976710656)) (by simp)
        have n3:k≤9223372036854775807:=by simpa using dq (decide (k≤9223372036854775807)) (by simp)
        obtain⟨kl,hlv⟩:=c.evI hl
        obtain⟨kc,hmv⟩:=c.evI hm
        have hr:=run_make (P:=P) w T e inf z hT vr hz kl kc n k n0 n1 n2 n3
        have qE:=aeH (w':=w) c.hp hcl'
        rw [OW]at qE
        have jw:(z7 n.toNat y0).length=n.toNat:=by simp
        have hcells:(madeCells z.cells (k.toNat * inf.size)).toList.take (n.toNat * t.size)=ro (z7 n.toNat z.cells.toList):=by
         rw [k1,← k2,MW]
         have:=NF z.cells.toList (n:=n.toNat) (m:=k.toNat) (by omega)
         rwa [Array.length_toList]at this
        have pT:(w.alloc (.cells (madeCells z.cells (k.toNat * inf.size)) e)).ownsRow 0 e t.size (.slice (some ⟨w.heap.size,0,none⟩) n.toNat k.toNat) (z7 n.toNat y0).length (ro (z7 n.toNat z.cells.toList)):=by
         rw [jw]
         refine⟨by rw [uL,Array.length_toList,k2],.inr ⟨w.heap.size,k.toNat,_,rfl,Nat.zero_le _,heap_alloc_new w _,by omega,xQ (by omega),by rw [size_madeCells,k1],hcells⟩⟩
        have hT: ∀ m:Nat,Of w ρ t (ro (z7 m z.cells.toList)) (z7 m y0) (z7 m []) none:=by
         intro m
         induction m with
         |zero=>exact Of.nil _ _ _
         |succ m ih=>
          rw [List.replicate_succ,List.replicate_succ,List.replicate_succ]
          exact(Of.one1 qE).append ih (by simpa using qE.length) (fun b hb=>by simp [qo]at hb)
        obtain⟨ρ',hv,hX,hp⟩:=c.hp.treeNew (nid:=nid) (G:= []) (jM nid (by simp)) (World.grownBy_alloc w _ none) (LU pT) (hT _) (fun g hg=>by cases hg) (fun b hb=>Nat.le_of_eq (ND hb).symm) (fun b hb=>by rw [ab1]at hb;cases hb)
        refine au ?_ (hC ρ' (.slice (some ⟨w.heap.size,0,none⟩) n.toNat k.toNat) _ hX ?_ hp)
        ·simp [execOp,hlv,hmv,hr]
        ·simp only [one,SV.conc,V1.conc,Cell.conc]
         exact hv.symm
       ·cases h
      |false=>
      rw [htr]at h
      simp only [cond_false]at h
      cases h
      have n0:0≤n:=by simpa using dq (decide (0≤n)) (by simp)
      have n1:n≤k:=by simpa using dq (decide (n≤k)) (by simp)
      have n2:(inf.bytes:Int) * k≤281474976710656:=by simpa using dq (decide ((inf.bytes:Int) * k≤281474976710656)) (by simp)
      have n3:k≤9223372036854775807:=by simpa using dq (decide (k≤9223372036854775807)) (by simp)
      obtain⟨kl,hlv⟩:=c.evI hl
      obtain⟨kc,hmv⟩:=c.evI hm
      have hr:=run_make (P:=P) w T e inf z hT vr hz kl kc n k n0 n1 n2 n3
      have qE:=SY (ρ:=ρ) (H:=ρ.mem) t _ _ _ Rt
      rw [OW]at qE
      have jw:(z7 n.toNat x0).length=n.toNat:=by simp
      have hcells:(madeCells z.cells (k.toNat * inf.size)).toList.take (n.toNat * t.size)=ro (z7 n.toNat z.cells.toList):=by
       rw [k1,← k2,MW]
       have:=NF z.cells.toList (n:=n.toNat) (m:=k.toNat) (by omega)
       rwa [Array.length_toList]at this
      have pT:(w.alloc (.cells (madeCells z.cells (k.toNat * inf.size)) e)).ownsRow 0 e t.size (.slice (some ⟨w.heap.size,0,none⟩) n.toNat k.toNat) (z7 n.toNat x0).length (ro (z7 n.toNat z.cells.toList)):=by
       rw [jw]
       refine⟨by rw [uL,Array.length_toList,k2],.inr ⟨w.heap.size,k.toNat,_,rfl,Nat.zero_le _,heap_alloc_new w _,by omega,xQ (by omega),by rw [size_madeCells,k1],hcells⟩⟩
      obtain⟨hX,hp⟩:=c.hp.rowNew (nid:=nid) (jM nid (by simp)) (World.grownBy_alloc w _ none) (LU pT) (jY.replicate qE _) (fun b hb=>Nat.le_of_eq (ND hb).symm)
      refine au ?_ (hC _ (.slice (some ⟨w.heap.size,0,none⟩) n.toNat k.toNat) _ hX ?_ hp)
      ·simp [execOp,hlv,hmv,hr]
      ·simp only [one,SV.conc,V1.conc,Cell.conc]
       rw [fy _ _ rfl]
    ·cases h
   ·cases h
  ·cases h
 ·cases h
theorem YU{ent e0:Nat→Option Entry}{used:Nat→Bool}(hs: ∀ id e,e0 id=some e→ent id=some e){l:List Nat}(h:Hp B ρ (aZ ent (frz e0 l)) used w){t:CTy}: ∀ {n:Nat} {cs:List Cell} {xs:List (E t)} {ids:List Nat},ZX e0 t cs n=some (xs,ids)→(∀ id∈ids,id∈l)→
  jY ρ.mem t (cs.map (Cell.conc ρ)) xs∧xs.length=n
 |0,[],xs,ids,hc,_=>by simp [ZX]at hc;obtain⟨rfl,_⟩:=hc;exact⟨jY.nil _ _,rfl⟩
 |0,_::_,xs,ids,hc,_=>by simp [ZX]at hc
 |n + 1,cs,xs,ids,hc,hl=>by
  simp only [ZX]at hc
  split at hc
  ·rename_i x1 l1 ys m1 h1 h2
   cases hc
   have a1:=Lf hs h t _ _ _ h1 fun i hi=>hl i (by simp [hi])
   obtain⟨a2,a3⟩:=YU hs h h2 fun i hi=>hl i (by simp [hi])
   refine⟨?_,by simp [a3]⟩
   have:=(jY.one a1).append a2
   rw [← List.map_append,List.take_append_drop]at this
   exact this
  ·cases hc
theorem Tp: ∀ {L:List Nat},To L=true→L.Nodup
 | [],_=>List.nodup_nil
 |i::r,h=>by
  simp only [To,w4,Bool.not_eq_true']at h
  refine List.nodup_cons.2 ⟨fun hm=> ?_,Tp h.2⟩
  rw [memN_mem.2 hm]at h;cases h.1
theorem YS(c:Ctx B ρ s a w look ent A){T:TypeId}{len:Nat}{parts:Array (Nat×Operand)}(ho:o.op= .buildSlice T len parts)(h:Va P tr look ent A nid T len parts=some r)(jM: ∀ i∈r.new,s.used i=false)(hC:lP B s ρ r o a K):o.wp P a w K Q:=by
 obtain⟨dst,op,ty,pos,after,guard⟩:=o
 simp only at ho;subst ho
 unfold Va at h
 split at h
 ·rename_i e vs hT hvs
  split at h
  ·rename_i inf t vr ht
   split at h
   ·rename_i z hz
    split at h
    ·rename_i cs Jr
     have hrun: ∀ (cs0:List Cell),cs0=cs→Nat.beq inf.size t.size=true→Nat.beq z.cells.size t.size=true→Nat.ble (len * t.size) 16777216=true→
       (Instr.buildSlice T len (parts.map fun(i,x)=>(i,a.eval x))).run P w= .ok (.slice (some ⟨w.heap.size,0,none⟩) len len) (w.alloc (.cells (cs.map (Cell.conc ρ)).toArray e)):=by
      intro cs0 _ k1 k2 k3
      have k1:=q8 k1
      have k2:=q8 k2
      have k3:=z8 k3
      obtain⟨e1,i1⟩:=Yf c hvs
      have hfl:=Vg (ρ:=ρ) Jr
      rw [ads,List.map_replicate,OW,← MW,w7,k2]at hfl
      rw [← e1]at hfl
      have hz0: ∀ zz:Array Value,(zz=z.cells∨len * t.size=0)→(Array.range (len * t.size)).map (zz[· % zz.size]!)=madeCells z.cells (len * t.size):=by
       intro zz hzz
       rcases hzz with rfl | h0
       ·rfl
       ·rw [h0];simp [madeCells]
      by_cases h0:len * t.size=0
      ·have hq:=hz0 #[] (.inr h0)
       simp [Instr.buildSlice,run_underlying hT,sizeOf,typeInfo,vr,k1,h0]
       rw [h0]at hq hfl
       simp at hq
       rw [hq]
       simp [hfl,newRow]
      ·simp [Instr.buildSlice,run_underlying hT,sizeOf,typeInfo,zeroValue,vr,hz,k1,show ¬ 16777216 < len * t.size by omega,h0]
       have hq:=hz0 z.cells (.inl rfl)
       rw [hq]
       simp [hfl,newRow]
     cases htr:(tr&& !t.flat)with
     |true=>
      rw [htr]at h
      simp only [cond_true]at h
      split at h
      ·rename_i xs l Rt
       cases ii:(Nat.beq inf.size t.size&&Nat.beq z.cells.size t.size&&Nat.ble (len * t.size) 16777216&&To (qo l))with
       |false=>simp [ii]at h
       |true=>
        simp only [ii,cond_true]at h
        cases h
        simp only [w4]at ii
        obtain⟨⟨⟨k1,k2⟩,k3⟩,k4⟩:=ii
        have hr:=hrun cs rfl k1 k2 k3
        have k3:=z8 k3
        have hp0:Hp B ρ ent s.used w:=⟨fun id e he=>c.hp.he id e (c.hE _ _ he),fun id id' e e' b he he'=>c.hp.hi id id' e e' b (c.hE _ _ he) (c.hE _ _ he'),c.hp.hf⟩
        obtain⟨Ls,t1,t2,t3,t4,t5⟩:=Xq hp0 Rt (Tp k4)
        have FG:((cs.map (Cell.conc ρ)).toArray).size=len * t.size:=by rw [List.size_toArray,List.length_map,t5]
        have hm:len≤maxLen:=by
         refine xQ ?_
         have:=Nat.le_mul_of_pos_right len (uW t)
         omega
        have pT:=World.ownsRow_lit (base:=0) (size:=t.size) (e:=e) w (cs.map (Cell.conc ρ)).toArray len (Nat.zero_le _) hm FG
        rw [← t4,List.toList_toArray]at pT
        have OE:s.used nid=false:=jM nid (by simp)
        obtain⟨ρ',hv,hX,hp⟩:=c.hp.treeNew (nid:=nid) (G:=qo l) OE (World.grownBy_alloc w _ none) (LU pT) t1 (fun g hg=>by
         obtain⟨e0,he0⟩:=t3 g hg
         exact(hp0.he g e0 he0).2.1) (fun b hb=>Nat.le_of_eq (ND hb).symm) (fun b hb=>by
         obtain⟨k,l0,hl0,hb0⟩:=nS.1 hb
         obtain⟨ids,hids,i,hi,e0,he0,hb1⟩:=t2 k l0 hl0 b hb0
         exact⟨i,nS.2 ⟨k,ids,hids,hi⟩,e0,c.hE _ _ he0,hb1⟩)
        rw [t4]at hv
        refine au ?_ (hC ρ' (.slice (some ⟨w.heap.size,0,none⟩) len len) _ hX ?_ hp)
        ·simp only [execOp]
         simp [hr]
        ·simp only [one,SV.conc,V1.conc,Cell.conc]
         exact hv.symm
      ·cases h
     |false=>
     rw [htr]at h
     simp only [cond_false]at h
     split at h
     ·rename_i xs l Rt
      cases ii:(Nat.beq inf.size t.size&&Nat.beq z.cells.size t.size&&Nat.ble (len * t.size) 16777216)with
      |false=>simp [ii]at h
      |true=>
       simp only [ii,cond_true]at h
       cases h
       simp only [w4]at ii
       obtain⟨⟨k1,k2⟩,k3⟩:=ii
       have hr:=hrun cs rfl k1 k2 k3
       have k3:=z8 k3
       obtain⟨ρ1,n1,x1,hp1⟩:=c.hp.freezes c.hE l
       obtain⟨qE,jw⟩:=YU c.hE hp1 Rt fun i hi=>hi
       rw [Vs n1]at qE
       have FG:((cs.map (Cell.conc ρ)).toArray).size=len * t.size:=by rw [List.size_toArray,qE.1,jw]
       have hm:len≤maxLen:=by
        refine xQ ?_
        have:=Nat.le_mul_of_pos_right len (uW t)
        omega
       have pT:=World.ownsRow_lit (base:=0) (size:=t.size) (e:=e) w (cs.map (Cell.conc ρ)).toArray len (Nat.zero_le _) hm FG
       rw [← jw,List.toList_toArray]at pT
       have OE:s.used nid=false:=jM nid (by simp)
       obtain⟨hX,hp⟩:=hp1.rowNew (nid:=nid) OE (World.grownBy_alloc w _ none) (LU pT) qE (fun b hb=>Nat.le_of_eq (ND hb).symm)
       rw [yP]at hp
       rw [jw]at hX hp
       refine au ?_ (hC _ (.slice (some ⟨w.heap.size,0,none⟩) len len) _ (x1.trans hX fun _ h=>h) ?_ hp)
       ·simp only [execOp]
        simp [hr]
       ·simp only [one,SV.conc,V1.conc,Cell.conc]
        rw [fy _ _ rfl]
     ·cases h
    ·cases h
   ·cases h
  ·cases h
 ·cases h
end
end Go.SX
namespace Go.SX
open Go.RowKit
def Cell.ids:Cell→List Nat
 | .val _=> []
 | .ptr id _=> [id]
 | .ref id=> [id]
 | .el id _ _ _=> [id]
 | .vw id _ _=> [id]
 | .clo _ caps=>caps
 | .bnd _ vs=>FD vs
def V1.ids(v:V1):List Nat:=ro (v.cs.map Cell.ids)
def SV.ids:SV→List Nat
 | .one v=>v.ids
 | .tup vs=>ro (vs.map V1.ids)
def Entry.ids:Entry→List Nat
 | .box _ cs=>ro (cs.map Cell.ids)
 | .tree _ _ _ (some (_,cs))=>ro (cs.map Cell.ids)
 |_=> []
def UW(acc:List Nat):List Nat→List Nat
 | []=>acc
 |i::r=>bif memN acc i then UW acc r else UW (acc++ [i]) r
def Vf(ent:Nat→Option Entry)(i:Nat):List Nat:=
 match ent i with
 |some e=>e.ids
 |none=> []
def MB(ent:Nat→Option Entry):Nat→List Nat→List Nat
 |0,l=>l
 |f + 1,l=>MB ent f (UW l (ro (l.map (Vf ent))))
def tW{α β:Type}(f:α→Option β):List α→Option (List β)
 | []=>some []
 |a::r=>match f a,tW f r with
  |some b,some bs=>some (b::bs)
  |_,_=>none
def PG:List Nat→Nat→Option Nat
 | [],_=>none
 |p::r,i=>bif Nat.beq p i then some 0 else(PG r i).map (· + 1)
def OT(f:Nat→Option Nat):Nat×Option Value→Option (Nat×Option Value)
 |(id,none)=>(f id).map (·,none)
 |(id,some v)=>some (id,some v)
def Cell.ren(f:Nat→Option Nat):Cell→Option Cell
 | .val v=>some (.val v)
 | .ptr id off=>(f id).map (Cell.ptr · off)
 | .ref id=>(f id).map .ref
 | .el id z i off=>(f id).map (Cell.el · z i off)
 | .vw id z k=>(f id).map (Cell.vw · z k)
 | .clo k caps=>(tW f caps).map (.clo k)
 | .bnd k vs=>(tW (OT f) vs).map (.bnd k)
def V1.ren(f:Nat→Option Nat)(v:V1):Option V1:=(tW (Cell.ren f) v.cs).map (V1.mk v.agg)
def SV.ren(f:Nat→Option Nat):SV→Option SV
 | .one v=>(v.ren f).map .one
 | .tup vs=>(tW (V1.ren f) vs).map .tup
def Entry.ren(f:Nat→Option Nat):Entry→Option Entry
 | .box T cs=>(tW (Cell.ren f) cs).map (.box T)
 | .row own e t xs=>some (.row own e t xs)
 | .tree e t xs none=>some (.tree e t xs none)
 | .tree e t xs (some (k,cs))=>(tW (Cell.ren f) cs).map fun c=> .tree e t xs (some (k,c))
 | .wk e t xs=>some (.wk e t xs)
 | .mp ks=>some (.mp ks)
 | .gone=>some .gone
def Vz:List Nat→Bool
 | []=>true
 |i::r=> !memN r i&&Vz r
def aaK(L:List Nat)(j:Nat):Option Nat:=L[j]?
def SC(ent:Nat→Option Entry):List Nat→List Entry→List (Nat×Entry)
 |i::r,e::es=>match ent i with
  |some (.row false _ _ _)=>SC ent r es
  |_=>(i,e)::SC ent r es
 |_,_=> []
def abp(ent:Nat→Option Entry)(kp:List Nat)(n:Nat):Nat→List Nat→List Entry→List (Nat×Entry)
 |j,i::r,e::es=>match ent i with
  |some (.row false _ _ _)=>abp ent kp n (j + 1) r es
  |_=>bif Nat.blt j n&&memN kp j then abp ent kp n (j + 1) r es else(i,e)::abp ent kp n (j + 1) r es
 |_,_,_=> []
def afk(ent:Nat→Option Entry)(L:List Nat)(i:Nat):Option Entry:=
 match ent i with
 |some e=>e.ren (PG L)
 |none=>none
def aeB{P:Program}(tbl:List (PF P))(ent:Nat→Option Entry)(nid:Nat)(k:FuncId)(args:List SV)(L:List Nat):Option Raw:=
 match tW (SV.ren (PG L)) args,tW (afk ent L) L with
 |some args',some es'=>match SW tbl k args' es' with
  |some (out,kp)=>
   let ns:=aK nid out.new.length
   match out.res.ren (aaK (L++ns)),tW (Entry.ren (aaK (L++ns))) (out.es++out.new)with
   |some v,some es=>bif Vz L then some ⟨v,abp ent kp L.length 0 (L++ns) es,ns,out.nd⟩else none
   |_,_=>none
  |none=>none
 |_,_=>none
def afc(P:Program)(k:FuncId):Bool:=
 match P.funcs[k]? with
 |some fn=> !(fn.name== "runtime.NumGoroutine")&& !fn.body.isNone
 |none=>false
def aeD(caps:List Nat):List SV:=caps.map fun id=>one (.ptr id 0)
def ajh:Nat×Option Value→Cell
 |(id,none)=> .ref id
 |(_,some v)=> .val v
def ah8(vs:List (Nat×Option Value)):SV:= .one ⟨true,vs.map ajh⟩
def ah9(P:Program)(tbl:List (PF P))(look:Nat→Option SS)(ent:Nat→Option Entry)(A:List (Nat×Bool))(nid:Nat)(f:Operand)(args:List Operand):Option Raw:=
 match evC look A f,evs look A args with
 |some (.val (.func (.func k) fi ca)),some vs=>match fi.toList,ca.toList with
  | [],[]=>bif afc P k then aeB tbl ent nid k vs (MB ent 4 (UW [] (ro (vs.map SV.ids))))else none
  |_,_=>none
 |some (.clo k caps),some vs=>bif afc P k then aeB tbl ent nid k (vs++aeD caps) (MB ent 4 (UW [] (ro ((vs++aeD caps).map SV.ids))))else none
 |some (.bnd k bs),some vs=>bif afc P k then aeB tbl ent nid k (ah8 bs::vs) (MB ent 4 (UW [] (ro ((ah8 bs::vs).map SV.ids))))else none
 |_,_=>none
theorem aax{ρ ρ':Nm}{f:Nat→Option Nat}: ∀ {vs js:List (Nat×Option Value)},tW (OT f) vs=some js→(∀ i∈FD vs,∀ j,f i=some j→ρ' j=ρ i)→js.map (bcV ρ')=vs.map (bcV ρ)
 | [],js,h,_=>by simp [tW]at h;subst h;rfl
 |(id,none)::r,js,h,hf=>by
  simp only [tW,OT]at h
  cases hq:f id with
  |none=>simp [hq]at h
  |some j=>
   cases hr:tW (OT f) r with
   |none=>simp [hq,hr]at h
   |some ks=>
    simp [hq,hr]at h;subst h
    rw [w8,w8,aax hr fun i hi=>hf i (List.mem_cons_of_mem _ hi)]
    simp only [bcV,hf id (List.mem_cons_self ..) j hq]
 |(id,some v)::r,js,h,hf=>by
  simp only [tW,OT]at h
  cases hr:tW (OT f) r with
  |none=>simp [hr]at h
  |some ks=>
   simp [hr]at h;subst h
   rw [w8,w8,aax hr fun i hi=>hf i hi]
   rfl
theorem Sn{f:Nat→Option Nat}{p:Nat→Prop}: ∀ {vs js:List (Nat×Option Value)},tW (OT f) vs=some js→(∀ i∈FD vs,∀ j,f i=some j→p j)→ ∀ j∈FD js,p j
 | [],js,h,_=>by simp [tW]at h;subst h;intro j hj;cases hj
 |(id,none)::r,js,h,hf=>by
  simp only [tW,OT]at h
  cases hq:f id with
  |none=>simp [hq]at h
  |some j=>
   cases hr:tW (OT f) r with
   |none=>simp [hq,hr]at h
   |some ks=>
    simp [hq,hr]at h;subst h
    intro k hk
    rcases List.mem_cons.1 hk with rfl | hk
    ·exact hf id (List.mem_cons_self ..) _ hq
    ·exact Sn hr (fun i hi=>hf i (List.mem_cons_of_mem _ hi)) k hk
 |(id,some v)::r,js,h,hf=>by
  simp only [tW,OT]at h
  cases hr:tW (OT f) r with
  |none=>simp [hr]at h
  |some ks=>
   simp [hr]at h;subst h
   exact Sn (vs:=r) (js:=ks) hr (fun i hi=>hf i hi)
theorem aay{f:Nat→Option Nat}: ∀ {vs:List (Nat×Option Value)},(∀ i∈FD vs,∃ j,f i=some j)→ ∃ js,tW (OT f) vs=some js
 | [],_=>⟨[],rfl⟩
 |(id,none)::r,h=>by
  obtain⟨j,hj⟩:=h id (List.mem_cons_self ..)
  obtain⟨ks,hk⟩:=aay (vs:=r) fun i hi=>h i (List.mem_cons_of_mem _ hi)
  exact⟨(j,none)::ks,by simp [tW,OT,hj,hk]⟩
 |(id,some v)::r,h=>by
  obtain⟨ks,hk⟩:=aay (vs:=r) fun i hi=>h i hi
  exact⟨(id,some v)::ks,by simp [tW,OT,hk]⟩
theorem Yt{f g:Nat→Option Nat}(h: ∀ i j k,f i=some j→g j=some k→k=i): ∀ {vs js ks:List (Nat×Option Value)},tW (OT f) vs=some js→tW (OT g) js=some ks→ks=vs
 | [],js,ks,h1,h2=>by simp [tW]at h1;subst h1;simp [tW]at h2;exact h2
 |(id,none)::r,js,ks,h1,h2=>by
  simp only [tW,OT]at h1
  cases hq:f id with
  |none=>simp [hq]at h1
  |some j=>
   cases hr:tW (OT f) r with
   |none=>simp [hq,hr]at h1
   |some l=>
    simp [hq,hr]at h1;subst h1
    simp only [tW,OT]at h2
    cases hq2:g j with
    |none=>simp [hq2]at h2
    |some k=>
     cases hr2:tW (OT g) l with
     |none=>simp [hq2,hr2]at h2
     |some m=>
      simp [hq2,hr2]at h2;subst h2
      rw [Yt h hr hr2,h id j k hq hq2]
 |(id,some v)::r,js,ks,h1,h2=>by
  simp only [tW,OT]at h1
  cases hr:tW (OT f) r with
  |none=>simp [hr]at h1
  |some l=>
   simp [hr]at h1;subst h1
   simp only [tW,OT]at h2
   cases hr2:tW (OT g) l with
   |none=>simp [hr2]at h2
   |some m=>
    simp [hr2]at h2;subst h2
    rw [Yt h hr hr2]
theorem Fi{α β:Type}{f:α→Option β}: ∀ {l:List α} {r:List β},tW f l=some r→r.length=l.length∧ ∀ (i:Nat),(∀ y,r[i]? =some y→ ∃ x,l[i]? =some x∧f x=some y)
 | [],r,h=>by simp [tW]at h;subst h;simp
 |a::l,r,h=>by
  simp only [tW]at h
  split at h
  ·rename_i b bs h1 h2
   cases h
   obtain⟨e1,e2⟩:=Fi h2
   refine⟨by simp [e1],fun i y hy=> ?_⟩
   cases i with
   |zero=>simp at hy;subst hy;exact⟨a,rfl,h1⟩
   |succ i=>simp at hy;simpa using e2 i y hy
  ·cases h
theorem Fj{α β γ:Type}{f:α→Option β}{g:β→γ}{h:α→γ}: ∀ {l:List α} {r:List β},tW f l=some r→(∀ x∈l,∀ y,f x=some y→g y=h x)→r.map g=l.map h
 | [],r,he,_=>by simp [tW]at he;subst he;rfl
 |a::l,r,he,hg=>by
  simp only [tW]at he
  split at he
  ·rename_i b bs h1 h2
   cases he
   simp only [w8,hg a (by simp) b h1,Fj h2 fun x hx=>hg x (by simp [hx])]
  ·cases he
theorem zQ{α β:Type}{f:α→Option β}{p:β→Prop}: ∀ {l:List α} {r:List β},tW f l=some r→(∀ x∈l,∀ y,f x=some y→p y)→ ∀ y∈r,p y
 | [],r,he,_=>by simp [tW]at he;subst he;simp
 |a::l,r,he,hg=>by
  simp only [tW]at he
  split at he
  ·rename_i b bs h1 h2
   cases he
   intro y hy
   rcases List.mem_cons.1 hy with rfl | hy
   ·exact hg a (by simp) _ h1
   ·exact zQ h2 (fun x hx=>hg x (by simp [hx])) y hy
  ·cases he
section
variable{f:Nat→Option Nat}{U U':Nat→Bool}{ρ ρ':Nm}
theorem Cell.ren_conc(hf: ∀ i j,U i=true→f i=some j→ρ' j=ρ i){c c':Cell}(hc:c.inU U)(h:c.ren f=some c'):c'.conc ρ'=c.conc ρ:=by
 cases c with
 |val v=>simp [Cell.ren]at h;subst h;rfl
 |ptr id off=>
  simp only [Cell.ren,q9]at h
  obtain⟨j,hj,rfl⟩:=h
  simp only [Cell.conc,hf id j hc hj]
 |ref id=>
  simp only [Cell.ren,q9]at h
  obtain⟨j,hj,rfl⟩:=h
  simp only [Cell.conc,hf id j hc hj]
 |el id z i off=>
  simp only [Cell.ren,q9]at h
  obtain⟨j,hj,rfl⟩:=h
  simp only [Cell.conc,hf id j hc hj]
 |vw id z k=>
  simp only [Cell.ren,q9]at h
  obtain⟨j,hj,rfl⟩:=h
  simp only [Cell.conc,hf id j hc hj]
 |clo k caps=>
  simp only [Cell.ren,q9]at h
  obtain⟨js,hj,rfl⟩:=h
  simp only [Cell.conc]
  rw [Fj hj fun x hx y hy=>by rw [hf x y (hc x hx) hy]]
 |bnd k vs=>
  simp only [Cell.ren,q9]at h
  obtain⟨js,hj,rfl⟩:=h
  simp only [Cell.conc]
  rw [aax hj fun i hi j Yk=>hf i j (hc i hi) Yk]
theorem Cell.ren_inU(hf: ∀ i j,f i=some j→U' j=true){c c':Cell}(h:c.ren f=some c'):c'.inU U':=by
 cases c with
 |val v=>simp [Cell.ren]at h;subst h;trivial
 |ptr id off=>
  simp only [Cell.ren,q9]at h
  obtain⟨j,hj,rfl⟩:=h
  exact hf id j hj
 |ref id=>
  simp only [Cell.ren,q9]at h
  obtain⟨j,hj,rfl⟩:=h
  exact hf id j hj
 |el id z i off=>
  simp only [Cell.ren,q9]at h
  obtain⟨j,hj,rfl⟩:=h
  exact hf id j hj
 |vw id z k=>
  simp only [Cell.ren,q9]at h
  obtain⟨j,hj,rfl⟩:=h
  exact hf id j hj
 |clo k caps=>
  simp only [Cell.ren,q9]at h
  obtain⟨js,hj,rfl⟩:=h
  exact zQ hj fun x _ y hy=>hf x y hy
 |bnd k vs=>
  simp only [Cell.ren,q9]at h
  obtain⟨js,hj,rfl⟩:=h
  exact Sn hj fun i _ j Yk=>hf i j Yk
theorem V1.ren_conc(hf: ∀ i j,U i=true→f i=some j→ρ' j=ρ i){v v':V1}(hc:v.inU U)(h:v.ren f=some v'):v'.conc ρ'=v.conc ρ:=by
 obtain⟨g,cs⟩:=v
 simp only [V1.ren,q9]at h
 obtain⟨cs',Jr,rfl⟩:=h
 have hm:cs'.map (Cell.conc ρ')=cs.map (Cell.conc ρ):=Fj Jr fun x hx y hy=>Cell.ren_conc hf (hc x hx) hy
 simp only [V1.conc]
 cases g with
 |true=>simp only [hm]
 |false=>
  have hl:=congrArg List.length hm
  simp only [List.length_map]at hl
  cases cs with
  |nil=>rw [List.eq_nil_of_length_eq_zero hl]
  |cons x xr=>
   cases cs' with
   |nil=>cases hl
   |cons y yr=>
    cases xr with
    |nil=>
     cases yr with
     |nil=>simpa using hm
     |cons _ _=>simp at hl
    |cons _ _=>
     cases yr with
     |nil=>simp at hl
     |cons _ _=>rfl
theorem SV.ren_conc(hf: ∀ i j,U i=true→f i=some j→ρ' j=ρ i){v v':SV}(hc:v.inU U)(h:v.ren f=some v'):v'.conc ρ'=v.conc ρ:=by
 cases v with
 |one v=>
  simp only [SV.ren,q9]at h
  obtain⟨u,hu,rfl⟩:=h
  exact V1.ren_conc hf hc hu
 |tup vs=>
  simp only [SV.ren,q9]at h
  obtain⟨u,hu,rfl⟩:=h
  simp only [SV.conc]
  rw [Fj hu fun x hx y hy=>V1.ren_conc hf (hc x hx) hy]
end
theorem BA: ∀ {L:List Nat} {i j:Nat},PG L i=some j→L[j]? =some i
 | [],i,j,h=>by simp [PG]at h
 |p::r,i,j,h=>by
  simp only [PG]at h
  cases hb:Nat.beq p i with
  |true=>simp [hb]at h;subst h;simp [q8 hb]
  |false=>
   simp only [hb,cond_false,q9]at h
   obtain⟨k,hk,rfl⟩:=h
   simpa using BA hk
theorem VA: ∀ {L:List Nat},Vz L=true→L.Nodup
 | [],_=>List.nodup_nil
 |i::r,h=>by
  simp only [Vz,w4,Bool.not_eq_true']at h
  refine List.nodup_cons.2 ⟨fun hm=> ?_,VA h.2⟩
  rw [memN_mem.2 hm]at h;cases h.1
theorem aam{L:List Nat}(hn:L.Nodup){j j' i:Nat}(h:L[j]? =some i)(h':L[j']? =some i):j=j':=
 (List.getElem?_inj (z6.1 h).1 hn).1 (h.trans h'.symm)
def ajE(ent:Nat→Option Entry)(i:Nat):Prop:= ∀ e t xs,ent i≠some (.row false e t xs)
theorem aaJ{ent:Nat→Option Entry}: ∀ {L:List Nat} {es:List Entry} {i:Nat} {e:Entry},look? (SC ent L es) i=some e→ ∃ j:Nat,L[j]? =some i∧es[j]? =some e
 | [],es,i,e,h=>by simp [SC,look?]at h
 |_::_,[],i,e,h=>by simp [SC,look?]at h
 |k::r,x::es,i,e,h=>by
  simp only [SC]at h
  split at h
  ·obtain⟨j,h1,h2⟩:=aaJ h;exact⟨j + 1,by simpa using h1,by simpa using h2⟩
  ·simp only [look?]at h
   cases hb:Nat.beq k i with
   |true=>simp [hb]at h;subst h;exact⟨0,by simp [q8 hb],rfl⟩
   |false=>simp [hb]at h;obtain⟨j,h1,h2⟩:=aaJ h;exact⟨j + 1,by simpa using h1,by simpa using h2⟩
theorem afE{ent:Nat→Option Entry}: ∀ {L:List Nat} {es:List Entry} {i j:Nat},L[j]? =some i→es.length=L.length→ajE ent i→ ∃ e,look? (SC ent L es) i=some e
 | [],es,i,j,h,_,_=>by simp at h
 |_::_,[],i,j,_,h,_=>by simp at h
 |k::r,x::es,i,j,h,hl,hd=>by
  simp only [SC]
  cases j with
  |zero=>
   simp at h;subst h
   split
   ·rename_i e t xs he;exact(hd _ _ _ he).elim
   ·exact⟨x,look?_same _ _ _⟩
  |succ j=>
   simp at h hl
   obtain⟨e,he⟩:=afE h hl hd
   split
   ·exact⟨e,he⟩
   ·simp only [look?]
    cases Nat.beq k i with
    |true=>exact⟨x,rfl⟩
    |false=>exact⟨e,he⟩
theorem Yn{α β:Type}{f:α→Option β}{g:β→Option α}: ∀ {l:List α} {m:List β} {n:List α},tW f l=some m→tW g m=some n→(∀ x∈l,∀ y z,f x=some y→g y=some z→z=x)→n=l
 | [],m,n,h1,h2,_=>by simp [tW]at h1;subst h1;simp [tW]at h2;exact h2
 |a::l,m,n,h1,h2,hr=>by
  simp only [tW]at h1
  split at h1
  ·rename_i b bs e1 e2
   cases h1
   simp only [tW]at h2
   split at h2
   ·rename_i c cs e3 e4
    cases h2
    rw [hr a (by simp) b c e1 e3,Yn e2 e4 fun x hx=>hr x (by simp [hx])]
   ·cases h2
  ·cases h1
section
variable{f g:Nat→Option Nat}
theorem Cell.ren_round(h: ∀ i j k,f i=some j→g j=some k→k=i){c c1 c2:Cell}(h1:c.ren f=some c1)(h2:c1.ren g=some c2):c2=c:=by
 cases c with
 |val v=>simp [Cell.ren]at h1;subst h1;simp [Cell.ren]at h2;exact h2.symm
 |ptr id off=>
  simp only [Cell.ren,q9]at h1
  obtain⟨j,hj,rfl⟩:=h1
  simp only [Cell.ren,q9]at h2
  obtain⟨k,hk,rfl⟩:=h2
  rw [h _ _ _ hj hk]
 |ref id=>
  simp only [Cell.ren,q9]at h1
  obtain⟨j,hj,rfl⟩:=h1
  simp only [Cell.ren,q9]at h2
  obtain⟨k,hk,rfl⟩:=h2
  rw [h _ _ _ hj hk]
 |el id z i off=>
  simp only [Cell.ren,q9]at h1
  obtain⟨j,hj,rfl⟩:=h1
  simp only [Cell.ren,q9]at h2
  obtain⟨k,hk,rfl⟩:=h2
  rw [h _ _ _ hj hk]
 |vw id z q=>
  simp only [Cell.ren,q9]at h1
  obtain⟨j,hj,rfl⟩:=h1
  simp only [Cell.ren,q9]at h2
  obtain⟨k,hk,rfl⟩:=h2
  rw [h _ _ _ hj hk]
 |clo q caps=>
  simp only [Cell.ren,q9]at h1
  obtain⟨j,hj,rfl⟩:=h1
  simp only [Cell.ren,q9]at h2
  obtain⟨k,hk,rfl⟩:=h2
  rw [Yn hj hk fun x _ y z h1 h2=>h x y z h1 h2]
 |bnd q vs=>
  simp only [Cell.ren,q9]at h1
  obtain⟨j,hj,rfl⟩:=h1
  simp only [Cell.ren,q9]at h2
  obtain⟨k,hk,rfl⟩:=h2
  rw [Yt h hj hk]
theorem Entry.ren_round(h: ∀ i j k,f i=some j→g j=some k→k=i){e e1 e2:Entry}(h1:e.ren f=some e1)(h2:e1.ren g=some e2):e2=e:=by
 have hc: ∀ {cs cs1 cs2:List Cell},tW (Cell.ren f) cs=some cs1→tW (Cell.ren g) cs1=some cs2→cs2=cs:=fun h1 h2=>Yn h1 h2 fun x _ y z q1 q2=>Cell.ren_round h q1 q2
 cases e with
 |box T cs=>
  simp only [Entry.ren,q9]at h1
  obtain⟨j,hj,rfl⟩:=h1
  simp only [Entry.ren,q9]at h2
  obtain⟨k,hk,rfl⟩:=h2
  rw [hc hj hk]
 |row own e t xs=>simp only [Entry.ren,w3]at h1;subst h1;simp only [Entry.ren,w3]at h2;exact h2.symm
 |tree e t xs ho=>
  cases ho with
  |none=>simp only [Entry.ren,w3]at h1;subst h1;simp only [Entry.ren,w3]at h2;exact h2.symm
  |some q=>
   obtain⟨n,cs⟩:=q
   simp only [Entry.ren,q9]at h1
   obtain⟨j,hj,rfl⟩:=h1
   simp only [Entry.ren,q9]at h2
   obtain⟨k,hk,rfl⟩:=h2
   rw [hc hj hk]
 |wk e t xs=>simp only [Entry.ren,w3]at h1;subst h1;simp only [Entry.ren,w3]at h2;exact h2.symm
 |mp ks=>simp only [Entry.ren,w3]at h1;subst h1;simp only [Entry.ren,w3]at h2;exact h2.symm
 |gone=>simp only [Entry.ren,w3]at h1;subst h1;simp only [Entry.ren,w3]at h2;exact h2.symm
end
theorem look?_ne_mem{es:List (Nat×Entry)}{i:Nat}(h: ∀ e,(i,e)∉es):look? es i=none:=by
 induction es with
 |nil=>rfl
 |cons p r ih=>
  obtain⟨k,x⟩:=p
  simp only [look?]
  cases hb:Nat.beq k i with
  |true=>rw [q8 hb]at h;exact(h x (by simp)).elim
  |false=>simp only [cond_false];exact ih fun e he=>h e (by simp [he])
theorem ZO{ent:Nat→Option Entry}{kp:List Nat}{n:Nat}: ∀ {M:List Nat} {es:List Entry} {j i:Nat} {e:Entry},(i,e)∈abp ent kp n j M es→i∈M
 | [],es,j,i,e,h=>by simp [abp]at h
 |_::_,[],j,i,e,h=>by simp [abp]at h
 |k::r,x::es,j,i,e,h=>by
  simp only [abp]at h
  split at h
  ·exact List.mem_cons_of_mem _ (ZO h)
  ·cases hb:(Nat.blt j n&&memN kp j)with
   |true=>rw [hb]at h;exact List.mem_cons_of_mem _ (ZO h)
   |false=>
    rw [hb]at h
    rcases List.mem_cons.1 h with h | h
    ·cases h;exact List.mem_cons_self ..
    ·exact List.mem_cons_of_mem _ (ZO h)
theorem afF{ent e0:Nat→Option Entry}{kp:List Nat}{n:Nat}(hE: ∀ id e,ent id=some e→e0 id=some e): ∀ {M:List Nat} {es:List Entry} {j:Nat},M.Nodup→
  (∀ q i e,M[q]? =some i→es[q]? =some e→(Nat.blt (j + q) n&&memN kp (j + q))=true→ent i=some e)→aZ e0 (abp ent kp n j M es)=aZ e0 (SC ent M es)
 | [],es,j,_,_=>by simp [abp,SC]
 |_::_,[],j,_,_=>by simp [abp,SC]
 |k::r,x::es,j,hn,hk=>by
  obtain⟨hn1,hn2⟩:=List.nodup_cons.1 hn
  have ih:=afF (e0:=e0) (n:=n) (j:=j + 1) (kp:=kp) hE (M:=r) (es:=es) hn2 fun q i e h1 h2 h3=>hk (q + 1) i e (by simpa using h1) (by simpa using h2) (by rw [show j + (q + 1)=j + 1 + q by omega];exact h3)
  simp only [abp,SC]
  split
  ·exact ih
  ·funext id
   have ihd:=congrFun ih id
   cases hb:(Nat.blt j n&&memN kp j)with
   |false=>
    simp only [cond_false,aZ,look?]
    cases Nat.beq k id with
    |true=>rfl
    |false=>exact ihd
   |true=>
    simp only [cond_true,aZ,look?]
    cases hq:Nat.beq k id with
    |false=>exact ihd
    |true=>
     have hkid:=q8 hq
     subst hkid
     have h1:=hk 0 k x rfl rfl hb
     rw [look?_ne_mem fun e he=>hn1 (ZO he)]
     exact hE _ _ h1
end Go.SX
namespace Go.SX
open Go.RowKit
section
variable{P:Program}{tbl:List (PF P)}{s:St}{look:Nat→Option SS}{ent:Nat→Option Entry}{A:List (Nat×Bool)}{nid:Nat}{o:Oper}{r:Raw}{B:Base}{ρ:Nm}{a:Act}{w:World}{K:Act→World→Prop}{Q:Exit→Act→World→Prop}
def abG(ent:Nat→Option Entry)(ρ:Nm)(L:List Nat)(b:Nat):Prop:= ∃ i∈L,∃ e,ent i=some e∧b∈e.ob ρ i
open Classical in
 noncomputable def memBig (w:World) (ent:Nat→Option Entry) (ρ:Nm) (L:List Nat) (b:Nat):Option Obj:=if abG ent ρ L b then none else w.heap[b]?
theorem aaU{L:List Nat}{b:Nat}{o:Obj}(h:memBig w ent ρ L b=some o):w.heap[b]? =some o:=by
 unfold memBig at h;split at h
 ·cases h
 ·exact h
theorem acl{L:List Nat}{b:Nat}(h:abG ent ρ L b):memBig w ent ρ L b=none:=by
 unfold memBig;rw [if_pos h]
theorem Lh{L:List Nat}{b:Nat}(h:memBig w ent ρ L b=none):abG ent ρ L b∨w.heap.size≤b:=by
 unfold memBig at h;split at h
 ·rename_i h';exact .inl h'
 ·right
  rcases Nat.lt_or_ge b w.heap.size with gm | hge
  ·rw [Array.getElem?_eq_getElem gm]at h;cases h
  ·exact hge
 noncomputable def subNm (ρ:Nm) (L:List Nat):Nm:=⟨fun j=>match L[j]? with | some i=>ρ.nm i | none=> .nilFunc,ρ.mem,fun j=>match L[j]? with | some i=>ρ.fp i | none=> []⟩
theorem mF{L:List Nat}{j i:Nat}(h:L[j]? =some i):subNm ρ L j=ρ i:=by
 simp only [Nm.of,subNm,h]
theorem ZN{L:List Nat}{j i:Nat}(h:L[j]? =some i):(subNm ρ L).fp j=ρ.fp i:=by
 simp only [subNm,h]
theorem aaz{ρ ρ':Nm}{i j:Nat}{own:Bool}{e:TypeId}{t:CTy}{xs:List (E t)}(h:ρ' j=ρ i):(Entry.row own e t xs).ob ρ' j=(Entry.row own e t xs).ob ρ i:=by
 cases own <;> simp only [Entry.ob,h]
theorem Qf{B':Base}{ρ':Nm}{id id':Nat}{f:Nat→Option Nat}{U:Nat→Bool}{e:TypeId}{t:CTy}{xs:List (E t)}{h:Option (Nat×List Cell)}{e':Entry}(hh:(Entry.tree e t xs h).holds B ρ w id)(hr:(Entry.tree e t xs h).ren f=some e')
  (jy:ρ' id'=ρ id) (hfp:ρ'.fp id'=ρ.fp id) (hb: ∀ b∈(Entry.tree e t xs h).ob ρ id,B'.mem b=none∧ρ'.mem b=none) (BV:(Entry.tree e t xs h).inU U) (hc: ∀ i j,U i=true→f i=some j→ρ' j=ρ i):
  e'.holds B' ρ' w id'∧e'.ob ρ' id'=(Entry.tree e t xs h).ob ρ id:=by
 obtain⟨cs,Ls,k1,k2,k3,k4,_⟩:=hh
 cases h with
 |none=>
  simp only [Entry.ren,w3]at hr;subst hr
  refine⟨?_,by simp only [Entry.ob,jy,hfp]⟩
  simp only [Entry.holds,jy,hfp]
  exact⟨cs,Ls,k1,k2.keep (fun _ _=>rfl) (fun _ _ h=>by cases h),k3,k4,hb⟩
 |some p=>
  obtain⟨k,hc0⟩:=p
  simp only [Entry.ren,q9]at hr
  obtain⟨c1,hm,rfl⟩:=hr
  refine⟨?_,by simp only [Entry.ob,jy,hfp]⟩
  simp only [Entry.holds,jy,hfp]
  obtain⟨t1,t2,t3,t4⟩:=k2
  refine⟨cs,Ls,k1,⟨t1,fun j l he=> ?_,fun i x l hi hx hl=>t3 i x l (fun j l' he=> ?_) hx hl,t4⟩,k3,k4,hb⟩
  ·cases he
   obtain⟨a,b,c⟩:=t2 k hc0 rfl
   refine⟨a,b,?_⟩
   rw [c]
   exact(Fj hm fun x hx y hy=>Cell.ren_conc hc (BV x hx) hy).symm
  ·cases he;exact hi _ _ rfl
theorem adM{ρ':Nm}{id id':Nat}{f:Nat→Option Nat}{e:TypeId}{t:CTy}{xs:List (E t)}{h:Option (Nat×List Cell)}{e':Entry}(hr:(Entry.tree e t xs h).ren f=some e')(hh:e'.holds B ρ w id')
  (jy:ρ' id=ρ id') (hfp:ρ'.fp id=ρ.fp id') (Bp:ρ'.mem=ρ.mem) (hc: ∀ i j,f i=some j→ρ' i=ρ j):
  (Entry.tree e t xs h).holds B ρ' w id∧(Entry.tree e t xs h).ob ρ' id=e'.ob ρ id':=by
 cases h with
 |none=>
  simp only [Entry.ren,w3]at hr;subst hr
  obtain⟨cs,Ls,k1,k2,k3,k4,k5⟩:=hh
  refine⟨?_,by simp only [Entry.ob,jy,hfp]⟩
  simp only [Entry.holds,jy,hfp,Bp]
  exact⟨cs,Ls,k1,k2.keep (fun _ _=>rfl) (fun _ _ h=>by cases h),k3,k4,k5⟩
 |some p=>
  obtain⟨k,hc0⟩:=p
  simp only [Entry.ren,q9]at hr
  obtain⟨c1,hm,rfl⟩:=hr
  obtain⟨cs,Ls,k1,k2,k3,k4,k5⟩:=hh
  refine⟨?_,by simp only [Entry.ob,jy,hfp]⟩
  simp only [Entry.holds,jy,hfp,Bp]
  obtain⟨t1,t2,t3,t4⟩:=k2
  refine⟨cs,Ls,k1,⟨t1,fun j l he=> ?_,fun i x l hi hx hl=>t3 i x l (fun j l' he=> ?_) hx hl,t4⟩,k3,k4,k5⟩
  ·cases he
   obtain⟨a,b,c⟩:=t2 k c1 rfl
   refine⟨a,b,?_⟩
   rw [c]
   exact Fj hm fun x hx y hy=>Cell.ren_conc (ρ:=ρ') (ρ':=ρ) (U:=fun _=>true) (fun i j _ Yk=>(hc i j Yk).symm) (by cases x <;> simp [Cell.inU]) hy
  ·cases he;exact hi _ _ rfl
theorem Tx{f:Nat→Option Nat}{U':Nat→Bool}{e:TypeId}{t:CTy}{xs:List (E t)}{h:Option (Nat×List Cell)}{e':Entry}(hr:(Entry.tree e t xs h).ren f=some e')(hf: ∀ i j,f i=some j→U' j=true):e'.inU U':=by
 cases h with
 |none=>simp only [Entry.ren,w3]at hr;subst hr;trivial
 |some p=>
  obtain⟨k,hc0⟩:=p
  simp only [Entry.ren,q9]at hr
  obtain⟨c1,hm,rfl⟩:=hr
  exact zQ hm fun x _ y hy=>Cell.ren_inU hf hy
theorem NL{L:List Nat}{es:List Entry}(hE: ∀ id e,ent id=some e→s.ent id=some e)(h:tW (afk ent L) L=some es){j:Nat}{e':Entry}(hj:es[j]? =some e'):
  ∃ i e,L[j]? =some i∧s.ent i=some e∧e.ren (PG L)=some e':=by
 obtain⟨i,h1,h2⟩:=(Fi h).2 j e' hj
 unfold afk at h2
 split at h2
 ·rename_i e he;exact⟨i,e,h1,hE _ _ he,h2⟩
 ·cases h2
theorem afj: ∀ {L:List Nat} {i:Nat},i∈L→ ∃ j,PG L i=some j
 | [],i,h=>by cases h
 |p::r,i,h=>by
  simp only [PG]
  cases hb:Nat.beq p i with
  |true=>exact⟨0,rfl⟩
  |false=>
   rcases List.mem_cons.1 h with rfl | h
   ·rw [show Nat.beq i i=true from Nat.beq_refl i]at hb;cases hb
   ·obtain⟨j,hj⟩:=afj h
    exact⟨j + 1,by rw [hj];rfl⟩
theorem lend(hE: ∀ id e,ent id=some e→s.ent id=some e)(hp:Hp B ρ s.ent s.used w){L:List Nat}(hn:L.Nodup){es:List Entry}(hes:tW (afk ent L) L=some es):
  HpL w (memBig w s.ent ρ L) es (subNm ρ L) w:=by
 have jw:=(Fi hes).1
 have hpos: ∀ i j,(fun _:Nat=>true) i=true→PG L i=some j→subNm ρ L j=ρ i:=fun i j _ h=>mF (BA h)
 have hob: ∀ j e' i e,L[j]? =some i→s.ent i=some e→e.ren (PG L)=some e'→ ∀ b,b∈e'.ob (subNm ρ L) j→b∈e.ob ρ i:=by
  intro j e' i e h1 h2 h3 b hb
  cases e with
  |box T cs=>simp only [Entry.ren,q9]at h3;obtain⟨cs',_,rfl⟩:=h3;simp only [Entry.ob,mF h1]at hb ⊢;exact hb
  |row own e t xs=>simp only [Entry.ren,w3]at h3;subst h3;rw [aaz (mF h1)]at hb;exact hb
  |tree e t xs ho=>rw [(Qf (B':=B) (ρ':=subNm ρ L) (id':=j) (U:=fun _=>true) (hp.he _ _ h2).1 h3 (mF h1) (ZN h1) (fun b hb=>(Entry.ob_lt (hp.he _ _ h2).1 hb).2) (Entry.inU_mono (fun _ _=>rfl) (hp.he _ _ h2).2.2) hpos).2]at hb;exact hb
  |wk e t xs=>simp only [Entry.ren,w3]at h3;subst h3;simp only [Entry.ob,mF h1]at hb ⊢;exact hb
  |mp ks=>simp only [Entry.ren,w3]at h3;subst h3;simp only [Entry.ob,mF h1]at hb ⊢;exact hb
  |gone=>simp only [Entry.ren,w3]at h3;subst h3;exact hb
 refine⟨fun j e' he'=> ?_,fun j j' e e' b he he' hb hb'=> ?_,rfl,rfl,rfl,Nat.le_refl _,fun b o hb=>aaU hb,hp.hf.dat,hp.hf.gl⟩
 ·obtain⟨i,e,h1,h2,h3⟩:=NL hE hes he'
  have gm:j < es.length:=(z6.1 he').1
  obtain⟨g1,g2,g3⟩:=hp.he i e h2
  have hU: ∀ i j,PG L i=some j→Nat.blt j es.length=true:=fun i j h=>by
   have:=(z6.1 (BA h)).1
   simp only [Nat.blt,Nat.ble_eq];omega
  refine⟨?_,by simp only [Nat.blt,Nat.ble_eq];omega,?_⟩
  ·have pT: ∀ b∈e.ob ρ i,memBig w s.ent ρ L b=none:=fun b hb=>acl ⟨i,List.mem_of_getElem? h1,e,h2,hb⟩
   cases e with
   |box T cs=>
    simp only [Entry.ren,q9]at h3
    obtain⟨cs',Jr,rfl⟩:=h3
    obtain⟨b,k1,k2,k3,k4⟩:=g1
    refine⟨b,by rw [mF h1];exact k1,?_,pT b (by simp [Entry.ob,k1,fB]),k4⟩
    rw [Fj Jr fun x hx y hy=>Cell.ren_conc (U:=fun _=>true) hpos (by cases x <;> simp [Cell.inU]) hy]
    exact k2
   |row own e0 t xs=>
    simp only [Entry.ren,w3]at h3;subst h3
    cases own with
    |false=>simp only [Entry.holds];rw [mF h1];exact g1
    |true=>
     obtain⟨cs,k1,k2,k3⟩:=g1
     simp only [Entry.holds];rw [mF h1]
     exact⟨cs,k1,k2,fun b hb=>⟨pT b hb,(k3 b hb).2⟩⟩
   |tree e0 t xs ho=>exact(Qf (ρ':=subNm ρ L) (id':=j) (U:=fun _=>true) g1 h3 (mF h1) (ZN h1) (fun b hb=>⟨pT b hb,(Entry.ob_lt g1 hb).2.2⟩) (Entry.inU_mono (fun _ _=>rfl) g3) hpos).1
   |wk e0 t xs=>
    simp only [Entry.ren,w3]at h3;subst h3
    obtain⟨k1,k2,k3⟩:=g1
    simp only [Entry.holds];rw [mF h1]
    exact⟨k1,k2,fun b hb=>⟨pT b hb,(k3 b hb).2⟩⟩
   |mp ks=>
    simp only [Entry.ren,w3]at h3;subst h3
    obtain⟨b,es,cl,k1,k2,k3,k4,k5⟩:=g1
    exact⟨b,es,cl,by rw [mF h1];exact k1,k2,k3,pT b (by simp [Entry.ob,k1,fB]),k5⟩
   |gone=>simp only [Entry.ren,w3]at h3;subst h3;trivial
  ·cases e with
   |box T cs=>
    simp only [Entry.ren,q9]at h3
    obtain⟨cs',Jr,rfl⟩:=h3
    exact zQ Jr fun x _ y hy=>Cell.ren_inU hU hy
   |row own e0 t xs=>simp only [Entry.ren,w3]at h3;subst h3;trivial
   |tree e0 t xs ho=>exact Tx h3 hU
   |wk e0 t xs=>simp only [Entry.ren,w3]at h3;subst h3;trivial
   |mp ks=>simp only [Entry.ren,w3]at h3;subst h3;trivial
   |gone=>simp only [Entry.ren,w3]at h3;subst h3;trivial
 ·obtain⟨i,e1,h1,h2,h3⟩:=NL hE hes he
  obtain⟨i',e1',h1',h2',h3'⟩:=NL hE hes he'
  have:=hp.hi i i' e1 e1' b h2 h2' (hob j e i e1 h1 h2 h3 b hb) (hob j' e' i' e1' h1' h2' h3' b hb')
  subst this
  exact aam hn h1 h1'
theorem alF(hE: ∀ id e,ent id=some e→s.ent id=some e)(hp:Hp B ρ s.ent s.used w){L:List Nat}(hn:L.Nodup){es0 es1 es':List Entry}(hes:tW (afk ent L) L=some es0)
  {m:Nat} (jM: ∀ i∈aK nid m,s.used i=false) {ρc:Nm} {w':World} (jw:es1.length=L.length + m)
  (hx:Ext (memB w (memBig w s.ent ρ L)) (fun i=>Nat.blt i es0.length) (subNm ρ L) ρc) (h:HpL w (memBig w s.ent ρ L) es1 ρc w') (hr:tW (Entry.ren (aaK (L++aK nid m))) es1=some es'):
  ∃ ρ':Nm,Ext B s.used ρ ρ'∧(∀ i j,Nat.blt i es1.length=true→aaK (L++aK nid m) i=some j→ρ' j=ρc i)∧
   Hp B ρ' (aZ s.ent (SC ent (L++aK nid m) es')) (bk s.used (aK nid m)) w':=by
 have hL: ∀ i∈L,s.used i=true:=fun i hi=>by
  obtain⟨j,hj⟩:=List.mem_iff_getElem?.1 hi
  have hjl:=(z6.1 hj).1
  have:j < es0.length:=by rw [(Fi hes).1];exact hjl
  obtain⟨i',e,h1,h2,_⟩:=NL hE hes (List.getElem?_eq_getElem this)
  rw [hj]at h1;cases h1
  exact(hp.he i e h2).2.1
 have hids: ∀ k n j:Nat,j < k→(aK n k)[j]? =some (n + j):=by
  intro k
  induction k with
  |zero=>intro n j hj;omega
  |succ k ih=>
   intro n j hj
   cases j with
   |zero=>simp [aK]
   |succ j=>simp only [aK,List.getElem?_cons_succ];rw [ih (n + 1) j (by omega)];congr 1;omega
 have hidl: ∀ k n:Nat,(aK n k).length=k:=by
  intro k
  induction k with
  |zero=>intro n;rfl
  |succ k ih=>intro n;simp [aK,ih]
 have hLL:(L++aK nid m).length=es1.length:=by rw [w5,hidl,jw]
 have hl0:es0.length=L.length:=(Fi hes).1
 have hl':es'.length=es1.length:=(Fi hr).1
 let ρ':Nm:=⟨fun id=>bif s.used id then ρ.nm id else ρc.nm (L.length + (id - nid)),ρc.mem,fun id=>match look? (SC ent (L++aK nid m) es') id,PG (L++aK nid m) id with | some _,some i=>ρc.fp i | _,_=>ρ.fp id⟩
 have hold: ∀ id,s.used id=true→ρ' id=ρ id:=fun id jy=>by simp only [Nm.of,ρ',jy,cond_true]
 have jL: ∀ i j:Nat,(L++aK nid m)[i]? =some j→ρ' j=ρc i:=by
  intro i j hj
  by_cases hi:i < L.length
  ·rw [List.getElem?_append_left hi]at hj
   rw [hold j (hL j (List.mem_of_getElem? hj)),← mF hj]
   exact(hx.nm i (by simp only [Nat.blt,Nat.ble_eq];omega)).symm
  ·rw [List.getElem?_append_right (by omega)]at hj
   have gm:i - L.length < m:=by
    have:=(z6.1 hj).1;rwa [hidl]at this
   rw [hids m nid _ gm]at hj;cases hj
   have hu:=jM (nid + (i - L.length)) (List.mem_of_getElem? (hids m nid _ gm))
   simp only [Nm.of,ρ',hu,cond_false]
   rw [show L.length + (nid + (i - L.length) - nid)=i by omega]
 have hnodup: ∀ i i' j:Nat,(L++aK nid m)[i]? =some j→(L++aK nid m)[i']? =some j→i=i':=by
  intro i i' j h1 h2
  by_cases hi:i < L.length
  ·rw [List.getElem?_append_left hi]at h1
   by_cases hi':i' < L.length
   ·rw [List.getElem?_append_left hi']at h2;exact aam hn h1 h2
   ·rw [List.getElem?_append_right (by omega)]at h2
    have:=jM j (List.mem_of_getElem? h2)
    rw [hL j (List.mem_of_getElem? h1)]at this;cases this
  ·rw [List.getElem?_append_right (by omega)]at h1
   have gm:i - L.length < m:=by
    have:=(z6.1 h1).1;rwa [hidl]at this
   by_cases hi':i' < L.length
   ·rw [List.getElem?_append_left hi']at h2
    have:=jM j (List.mem_of_getElem? h1)
    rw [hL j (List.mem_of_getElem? h2)]at this;cases this
   ·rw [List.getElem?_append_right (by omega)]at h2
    have hlt':i' - L.length < m:=by
     have:=(z6.1 h2).1;rwa [hidl]at this
    rw [hids m nid _ gm]at h1
    rw [hids m nid _ hlt']at h2
    cases h1
    have:=Option.some.inj h2
    omega
 have Gu: ∀ b,abG s.ent ρ L b→Was s.ent ρ (SC ent (L++aK nid m) es') b:=by
  rintro b ⟨i,hi,e,he,hb⟩
  obtain⟨j,hj⟩:=List.mem_iff_getElem?.1 hi
  have hjl:=(z6.1 hj).1
  obtain⟨e',he'⟩:=afE (ent:=ent) (es:=es') (i:=i) (j:=j) (L:=L++aK nid m) (by rw [List.getElem?_append_left hjl];exact hj) (by rw [hl',hLL]) (fun e0 t xs hh=>by
   rw [hE _ _ hh]at he;cases he;simp [Entry.ob]at hb)
  exact⟨i,e,e',he,hb,he'⟩
 have hBnone: ∀ b,memBig w s.ent ρ L b=none→B.mem b=none:=fun b hb=>by
  rcases Lh hb with⟨i,_,e,he,hb⟩ | hge
  ·exact(Entry.ob_lt (hp.he i e he).1 hb).2.1
  ·cases hm:B.mem b with
   |none=>rfl
   |some o=>have:=(Array.getElem?_eq_some_iff.1 (hp.hf.mem _ _ hm)).1;omega
 have hren: ∀ i j,Nat.blt i es1.length=true→aaK (L++aK nid m) i=some j→ρ' j=ρc i:=fun i j _ h=>jL i j h
 have hUj: ∀ i j,aaK (L++aK nid m) i=some j→bk s.used (aK nid m) j=true:=fun i j hj=>by
  rcases List.mem_append.1 (List.mem_of_getElem? hj)with hm | hm
  ·exact ic _ (hL j hm)
  ·exact vM hm
 have hgfp: ∀ (i id:Nat) (e:Entry),(L++aK nid m)[i]? =some id→look? (SC ent (L++aK nid m) es') id=some e→ρ'.fp id=ρc.fp i:=by
  intro i id e hi hl
  obtain⟨j,hj⟩:=afj (List.mem_of_getElem? hi)
  have:=hnodup _ _ _ (BA hj) hi
  subst this
  show (match look? (SC ent (L++aK nid m) es') id,PG (L++aK nid m) id with | some _,some i=>ρc.fp i | _,_=>ρ.fp id)=_
  rw [hl,hj]
 have QE: ∀ id e,look? (SC ent (L++aK nid m) es') id=some e→ ∃ (i:Nat) (e0:Entry),(L++aK nid m)[i]? =some id∧es1[i]? =some e0∧e0.ren (aaK (L++aK nid m))=some e∧ρ'.fp id=ρc.fp i∧e.ob ρ' id=e0.ob ρc i:=by
  intro id e hl
  obtain⟨i,h1,h2⟩:=aaJ hl
  obtain⟨e0,h3,h4⟩:=(Fi hr).2 i e h2
  have hf:=hgfp i id e h1 hl
  refine⟨i,e0,h1,h3,h4,hf,?_⟩
  have hg:=jL i id h1
  cases e0 with
  |box T cs=>simp only [Entry.ren,q9]at h4;obtain⟨cs',_,rfl⟩:=h4;simp only [Entry.ob,hg]
  |row own e t xs=>simp only [Entry.ren,w3]at h4;subst h4;exact aaz hg
  |tree e0 t xs ho=>
   have g1:=h.he i _ h3
   exact(Qf (B':=memB w (memBig w s.ent ρ L)) (U:=fun i=>Nat.blt i es1.length) g1.1 h4 hg hf (fun b hb=>(Entry.ob_lt g1.1 hb).2) g1.2.2 hren).2
  |wk e t xs=>simp only [Entry.ren,w3]at h4;subst h4;simp only [Entry.ob,hg]
  |mp ks=>simp only [Entry.ren,w3]at h4;subst h4;simp only [Entry.ob,hg]
  |gone=>simp only [Entry.ren,w3]at h4;subst h4;rfl
 have Th:Chg w w' (abG s.ent ρ L):=⟨h.hf.os,h.hf.tape,h.hf.output,h.hf.size,fun k hk hX=>by
  have:memBig w s.ent ρ L k=w.heap[k]? :=by unfold memBig;rw [if_neg hX]
  rw [Array.getElem?_eq_getElem hk]at this ⊢
  exact h.hf.mem k _ this⟩
 have key:=hp.chg (ρ':=ρ') (es:=SC ent (L++aK nid m) es') (new:=aK nid m) Th hold (fun b o hb=>hx.old b o hb) Gu
  (fun b o hb=>(hx.new b o hb).imp (fun h=>h) fun hb'=>⟨h.hf.dat b o hb,hb'.2,(Lh hb'.1).symm.imp (fun h=>h) (Gu b)⟩)
  (fun id e hl=>by
   obtain⟨i,e0,h1,h2,h3,hfp0,_⟩:=QE id e hl
   obtain⟨g1,_,g3⟩:=h.he i e0 h2
   have hUid:bk s.used (aK nid m) id=true:=hUj i id h1
   refine⟨?_,hUid,?_⟩
   ·cases e0 with
    |box T cs=>
     simp only [Entry.ren,q9]at h3
     obtain⟨cs',Jr,rfl⟩:=h3
     obtain⟨b,k1,k2,k3,k4⟩:=g1
     refine⟨b,by rw [jL i id h1];exact k1,?_,hBnone b k3,k4⟩
     rw [Fj Jr fun x hx y hy=>Cell.ren_conc hren (g3 x hx) hy]
     exact k2
    |row own e1 t xs=>
     simp only [Entry.ren,w3]at h3;subst h3
     cases own with
     |false=>simp only [Entry.holds];rw [jL i id h1];exact g1
     |true=>
      obtain⟨cs,k1,k2,k3⟩:=g1
      simp only [Entry.holds];rw [jL i id h1]
      exact⟨cs,k1,k2,fun b hb=>⟨hBnone b (k3 b hb).1,(k3 b hb).2⟩⟩
    |tree e1 t xs ho=>exact(Qf (U:=fun i=>Nat.blt i es1.length) g1 h3 (jL i id h1) hfp0 (fun b hb=>⟨hBnone b (Entry.ob_lt g1 hb).2.1,(Entry.ob_lt g1 hb).2.2⟩) g3 hren).1
    |wk e1 t xs=>
     simp only [Entry.ren,w3]at h3;subst h3
     obtain⟨k1,k2,k3⟩:=g1
     simp only [Entry.holds];rw [jL i id h1]
     exact⟨k1,k2,fun b hb=>⟨hBnone b (k3 b hb).1,(k3 b hb).2⟩⟩
    |mp ks=>
     simp only [Entry.ren,w3]at h3;subst h3
     obtain⟨b,es,cl,k1,k2,k3,k4,k5⟩:=g1
     exact⟨b,es,cl,by rw [jL i id h1];exact k1,k2,k3,hBnone b k4,k5⟩
    |gone=>simp only [Entry.ren,w3]at h3;subst h3;trivial
   ·cases e0 with
    |box T cs=>
     simp only [Entry.ren,q9]at h3
     obtain⟨cs',Jr,rfl⟩:=h3
     exact zQ Jr fun x _ y hy=>Cell.ren_inU hUj hy
    |row own e1 t xs=>simp only [Entry.ren,w3]at h3;subst h3;trivial
    |tree e1 t xs ho=>exact Tx h3 hUj
    |wk e1 t xs=>simp only [Entry.ren,w3]at h3;subst h3;trivial
    |mp ks=>simp only [Entry.ren,w3]at h3;subst h3;trivial
    |gone=>simp only [Entry.ren,w3]at h3;subst h3;trivial)
  (fun id e b hl hb=>by
   obtain⟨i,e0,h1,h2,_,_,h4⟩:=QE id e hl
   rw [h4]at hb
   exact(Lh (Entry.ob_lt (h.he i e0 h2).1 hb).2.1).symm.imp (fun h=>h) (Gu b))
  (fun id id' e e' b hl hl' hb hb'=>by
   obtain⟨i,e0,h1,h2,_,_,h4⟩:=QE id e hl
   obtain⟨i',e0',h1',h2',_,_,h4'⟩:=QE id' e' hl'
   rw [h4]at hb;rw [h4']at hb'
   have:=h.hi i i' e0 e0' b h2 h2' hb hb'
   subst this
   rw [h1]at h1';exact Option.some.inj h1')
  (fun id _ hl=>by
   show (match look? (SC ent (L++aK nid m) es') id,PG (L++aK nid m) id with | some _,some i=>ρc.fp i | _,_=>ρ.fp id)=_
   rw [hl])
 exact⟨ρ',key.1,hren,key.2⟩
end
end Go.SX
namespace Go.SX
open Go.RowKit
def ahv(P:Program)(f:TypeId→V1→V1→Option Bool):List Field→List Cell→List Cell→Option Bool
 | [],_,_=>some true
 |fd::r,cx,cy=>match decide (fd.name= "_")with
  |true=>ahv P f r cx cy
  |false=>match Vn P fd.type fd.offset cx,Vn P fd.type fd.offset cy with
   |some a,some b=>match f fd.type a b,ahv P f r cx cy with
    |some u,some v=>some (bif u then v else false)
    |_,_=>none
   |_,_=>none
def eqC(P:Program):Nat→TypeId→V1→V1→Option Bool
 |0,_,_,_=>none
 |d + 1,t,x,y=>match P.underlying t with
  |some .bool=>match x,y with
   |⟨false,[.val (.bool a)]⟩,⟨false,[.val (.bool b)]⟩=>some (a==b)
   |_,_=>none
  |some (.int _)=>match x,y with
   |⟨false,[.val (.int k a)]⟩,⟨false,[.val (.int k' b)]⟩=>if k=k' then some (a==b)else none
   |_,_=>none
  |some .string=>match x,y with
   |⟨false,[.val (.string a)]⟩,⟨false,[.val (.string b)]⟩=>some (a==b)
   |_,_=>none
  |some (.struct fs)=>match x,y with
   |⟨true,cx⟩,⟨true,cy⟩=>bif P.stoodInHeld t then none else ahv P (eqC P d) fs.toList cx cy
   |_,_=>none
  |_=>none
def eqV(P:Program)(look:Nat→Option SS)(A:List (Nat×Bool))(op:BinOp)(T:TypeId)(x y:Operand):Option Raw:=
 match op,ev1 look A x,ev1 look A y with
 | .eql,some ⟨true,cx⟩,some ⟨true,cy⟩=>bif P.eqGuardType P.depth T then none else match eqC P 12 T ⟨true,cx⟩ ⟨true,cy⟩with
  |some b=>some (.ofV (one (.val (.bool b))))
  |none=>none
 | .neq,some ⟨true,cx⟩,some ⟨true,cy⟩=>bif P.eqGuardType P.depth T then none else match eqC P 12 T ⟨true,cx⟩ ⟨true,cy⟩with
  |some b=>some (.ofV (one (.val (.bool (!b)))))
  |none=>none
 |_,_,_=>none
def af0(P:Program)(look:Nat→Option SS)(ent:Nat→Option Entry)(A:List (Nat×Bool))(op:BinOp)(T:TypeId)(x y:Operand):Option Raw:=
 match op,P.underlying T,evC look A x,evC look A y with
 | .eql,some (.slice _),some (.ref id),some (.val (.slice none 0 0))=>match ent id with
  |some (.row _ _ _ xs)=>some ⟨one (.val (.bool false)),[],[],[decide (0 < xs.length)]⟩
  |_=>none
 | .neq,some (.slice _),some (.ref id),some (.val (.slice none 0 0))=>match ent id with
  |some (.row _ _ _ xs)=>some ⟨one (.val (.bool true)),[],[],[decide (0 < xs.length)]⟩
  |_=>none
 |_,_,_,_=>none
section
variable{P:Program}{s:St}{look:Nat→Option SS}{ent:Nat→Option Entry}{A:List (Nat×Bool)}{nid:Nat}{o:Oper}{r:Raw}{B:Base}{ρ:Nm}{a:Act}{w:World}{K:Act→World→Prop}{Q:Exit→Act→World→Prop}
theorem Ye{f:TypeId→V1→V1→Option Bool}{d:Nat}(hf: ∀ t x y b,f t x y=some b→(Op.equalIn d t (x.conc ρ) (y.conc ρ)).run P w= .ok b w):
  ∀ (fs:List Field) (cx cy:List Cell) (b:Bool),ahv P f fs cx cy=some b→(Op.eqFields d (cx.map (Cell.conc ρ)).toArray (cy.map (Cell.conc ρ)).toArray fs).run P w= .ok b w
 | [],_,_,b,h=>by simp only [ahv,w3]at h;subst h;simp [Op.eqFields]
 |fd::r,cx,cy,b,h=>by
  simp only [ahv]at h
  split at h
  ·rename_i hn
   have hn:=of_decide_eq_true hn
   simp only [Op.eqFields,hn,ne_eq,not_true_eq_false,if_false]
   exact Ye hf r cx cy b h
  ·rename_i hn
   have hn:=of_decide_eq_false hn
   split at h
   ·rename_i u v hu hv
    split at h
    ·rename_i e1 e2 h1 h2
     cases h
     have p1:=acE (ρ:=ρ) (w:=w) hu
     have p2:=acE (ρ:=ρ) (w:=w) hv
     have p3:=hf _ _ _ _ h1
     have ih:=Ye hf r cx cy e2 h2
     simp only [Op.eqFields,ne_eq,hn,not_false_eq_true,if_true,Sem.run_bind,p1,p2,p3,Result.andThen_ok]
     cases e1 with
     |true=>simpa using ih
     |false=>simp
    ·cases h
   ·cases h
theorem aaa: ∀ (d D:Nat) (t:TypeId) (x y:V1) (b:Bool),eqC P d t x y=some b→(Op.equalIn (D + d) t (x.conc ρ) (y.conc ρ)).run P w= .ok b w
 |0,_,_,_,_,_,h=>by cases h
 |d + 1,D,t,x,y,b,h=>by
  simp only [eqC]at h
  split at h
  ·rename_i hu
   split at h
   ·cases h
    exact run_equalIn_bool w (D + d) t _ _ hu
   ·cases h
  ·rename_i k0 hu
   split at h
   ·rename_i k a k' b'
    split at h
    ·rename_i hk
     subst hk
     cases h
     exact run_equalIn_int w (D + d) t k k0 a b' hu
    ·cases h
   ·cases h
  ·rename_i hu
   split at h
   ·rename_i a' b'
    cases h
    have:=run_equalIn_string w (D + d) t a' b' hu
    rw [← beq_toListBytes]at this
    exact this
   ·cases h
  ·rename_i fs hu
   split at h
   ·rename_i cx cy
    cases hs:P.stoodInHeld t with
    |true=>rw [hs]at h;cases h
    |false=>
     rw [hs,cond_false]at h
     have hfs:P.fieldsOf t=fs:=by simp [Program.fieldsOf,hu]
     have hr:=run_equalIn_struct w (D + d) t (cx.map (Cell.conc ρ)).toArray (cy.map (Cell.conc ρ)).toArray (by rw [hfs];exact hu) hs
     rw [hfs]at hr
     exact hr.trans (Ye (fun t x y b hb=>aaa d D t x y b hb) fs.toList cx cy b h)
   ·cases h
  ·cases h
theorem ahw(c:Ctx B ρ s a w look ent A){bop:BinOp}{T T':TypeId}{x y:Operand}(ho:o.op= .binOp bop T x y T')(h:eqV P look A bop T x y=some r)(hC:lP B s ρ r o a K):o.wp P a w K Q:=by
 obtain⟨dst,op,ty,pos,after,guard⟩:=o
 simp only at ho;subst ho
 unfold eqV at h
 split at h
 ·rename_i cx cy hx hy
  cases hg:P.eqGuardType P.depth T with
  |true=>rw [hg]at h;cases h
  |false=>
   rw [hg,cond_false]at h
   split at h
   ·rename_i b hb
    cases h
    have sm:=(c.ev1 hx).1
    have Ip:=(c.ev1 hy).1
    have he:=aaa (ρ:=ρ) (w:=w) 12 9988 T _ _ b hb
    simp only [V1.conc]at sm Ip he
    refine au (w':=w) ?_ (lP.same (v:=one (.val (.bool b))) rfl hC c.hp)
    simp only [execOp,sm,Ip,Sem.run_bind,run_eqGuard_agg w .eql T x y _ _ hg,Result.andThen_ok,run_eql_struct,he,one,SV.conc,V1.conc,Cell.conc]
    rfl
   ·cases h
 ·rename_i cx cy hx hy
  cases hg:P.eqGuardType P.depth T with
  |true=>rw [hg]at h;cases h
  |false=>
   rw [hg,cond_false]at h
   split at h
   ·rename_i b hb
    cases h
    have sm:=(c.ev1 hx).1
    have Ip:=(c.ev1 hy).1
    have he:=aaa (ρ:=ρ) (w:=w) 12 9988 T _ _ b hb
    simp only [V1.conc]at sm Ip he
    refine au (w':=w) ?_ (lP.same (v:=one (.val (.bool (!b)))) rfl hC c.hp)
    simp only [execOp,sm,Ip,Sem.run_bind,run_eqGuard_agg w .neq T x y _ _ hg,Result.andThen_ok,run_neq_struct,he,one,SV.conc,V1.conc,Cell.conc]
    rfl
   ·cases h
 ·cases h
theorem afo{own:Bool}{id:Nat}{e:TypeId}{t:CTy}{xs:List (E t)}(h:(Entry.row own e t xs).holds B ρ w id)(hf: ∀ b o,ρ.mem b=some o→w.heap[b]? =some o)(hx:0 < xs.length):
  ∃ b n cap,ρ id= .slice (some b) n cap:=by
 rcases Na h hf with⟨_,hn⟩ | ⟨b,off,cap,news,hv,_⟩
 ·subst hn;cases hx
 ·exact⟨_,_,_,hv⟩
theorem acD{T e:TypeId}(hT:P.underlying T=some (.slice e))(b:Addr)(n cap d:Nat):(Op.equalIn (d + 1) T (.slice (some b) n cap) (.slice none 0 0)).run P w= .ok false w:=by
 simp [Op.equalIn,run_underlying hT]
theorem afr{T e:TypeId}(hT:P.underlying T=some (.slice e))(b:Addr)(n cap:Nat)(x y:Operand):(do eqGuard .eql T x y (.slice (some b) n cap) (.slice none 0 0);binOp .eql T (.slice (some b) n cap) (.slice none 0 0):Sem Value).run P w= .ok (.bool false) w:=by
 have h:=acD (w:=w) hT b n cap 9999
 have h0:(eqGuard .eql T x y (.slice (some b) n cap) (.slice none 0 0)).run P w= .ok () w:=rfl
 have h1:(binOp .eql T (.slice (some b) n cap) (.slice none 0 0)).run P w= .ok (.bool false) w:=by
  show (do pure (.bool (← Op.equalIn (9999 + 1) T (.slice (some b) n cap) (.slice none 0 0))):Sem Value).run P w=_
  rw [Sem.run_bind,h];rfl
 rw [Sem.run_bind,h0];exact h1
theorem afs{T e:TypeId}(hT:P.underlying T=some (.slice e))(b:Addr)(n cap:Nat)(x y:Operand):(do eqGuard .neq T x y (.slice (some b) n cap) (.slice none 0 0);binOp .neq T (.slice (some b) n cap) (.slice none 0 0):Sem Value).run P w= .ok (.bool true) w:=by
 have h:=acD (w:=w) hT b n cap 9999
 have h0:(eqGuard .neq T x y (.slice (some b) n cap) (.slice none 0 0)).run P w= .ok () w:=rfl
 have h1:(binOp .neq T (.slice (some b) n cap) (.slice none 0 0)).run P w= .ok (.bool true) w:=by
  show (do pure (.bool (!(← Op.equalIn (9999 + 1) T (.slice (some b) n cap) (.slice none 0 0)))):Sem Value).run P w=_
  rw [Sem.run_bind,h];rfl
 rw [Sem.run_bind,h0];exact h1
theorem adY(c:Ctx B ρ s a w look ent A){bop:BinOp}{T T':TypeId}{x y:Operand}(ho:o.op= .binOp bop T x y T')(h:af0 P look ent A bop T x y=some r)(dq: ∀ b∈r.nd,b=true)(hC:lP B s ρ r o a K):o.wp P a w K Q:=by
 obtain⟨dst,op,ty,pos,after,guard⟩:=o
 simp only at ho;subst ho
 unfold af0 at h
 split at h
 ·rename_i e id hT hx hy
  split at h
  ·rename_i own e' t xs he
   cases h
   have hl:0 < xs.length:=by simpa using dq (decide (0 < xs.length)) (by simp)
   have sm:=(c.evC hx).1
   have Ip:=(c.evC hy).1
   simp only [Cell.conc]at sm Ip
   obtain⟨b,n,cap,hv⟩:=afo (c.hp.he _ _ (c.hE _ _ he)).1 c.hp.hf.dat hl
   rw [hv]at sm
   refine au (w':=w) ?_ (lP.same (v:=one (.val (.bool false))) rfl hC c.hp)
   have hr:=afr (w:=w) hT b n cap x y
   simp only [Sem.run_bind]at hr
   simp only [execOp,sm,Ip,Sem.run_bind,hr,one,SV.conc,V1.conc,Cell.conc]
   rfl
  ·cases h
 ·rename_i e id hT hx hy
  split at h
  ·rename_i own e' t xs he
   cases h
   have hl:0 < xs.length:=by simpa using dq (decide (0 < xs.length)) (by simp)
   have sm:=(c.evC hx).1
   have Ip:=(c.evC hy).1
   simp only [Cell.conc]at sm Ip
   obtain⟨b,n,cap,hv⟩:=afo (c.hp.he _ _ (c.hE _ _ he)).1 c.hp.hf.dat hl
   rw [hv]at sm
   refine au (w':=w) ?_ (lP.same (v:=one (.val (.bool true))) rfl hC c.hp)
   have hr:=afs (w:=w) hT b n cap x y
   simp only [Sem.run_bind]at hr
   simp only [execOp,sm,Ip,Sem.run_bind,hr,one,SV.conc,V1.conc,Cell.conc]
   rfl
  ·cases h
 ·cases h
end
end Go.SX
namespace Go.SX
open Go.RowKit
def agX:List GEnt→Nat→Option GEnt
 | [],_=>none
 |x::r,g=>bif Nat.beq x.g g then some x else agX r g
theorem adl: ∀ {l:List GEnt} {g:Nat} {x:GEnt},agX l g=some x→x∈l∧x.g=g
 | [],_,_,h=>by cases h
 |y::r,g,x,h=>by
  simp only [agX]at h
  cases hb:Nat.beq y.g g with
  |true=>rw [hb]at h;cases h;exact⟨by simp,q8 hb⟩
  |false=>rw [hb]at h;have:=adl (l:=r) h;exact⟨by simp [this.1],this.2⟩
def ag4(P:Program)(T:TypeId)(x:Operand):Option GEnt:=
 match x with
 | .global g=>match agX GT g with
  |some G=>match P.underlying T with
   |some (.array n e)=>match P.info? e with
    |some inf=>bif Nat.beq inf.size G.t.size&&(Nat.beq n G.xs.length&&Nat.beq e G.e)then some G else none
    |none=>none
   |_=>none
  |none=>none
 |_=>none
def ad2(P:Program)(look:Nat→Option SS)(A:List (Nat×Bool))(nid:Nat)(T:TypeId)(x ix:Operand):Option Raw:=
 match ag4 P T x,evI look A ix with
 |some G,some i=>some ⟨one (.el nid G.t.size i.toNat 0),[(nid,.row false G.e G.t G.xs)],[nid],[decide (0≤i),decide (i < G.xs.length)]⟩
 |_,_=>none
def ad3(P:Program)(look:Nat→Option SS)(A:List (Nat×Bool))(nid:Nat)(T:TypeId)(x:Operand)(lo hi mx:Option Operand):Option Raw:=
 match mx,ag4 P T x with
 |none,some G=>match bnd look A lo 0,bnd look A hi G.xs.length with
  |some l,some h=>some ⟨one (.ref nid),[(nid,.row false G.e G.t ((G.xs.take h.toNat).drop l.toNat))],[nid],[decide (0≤l),decide (l≤h),decide (h≤G.xs.length)]⟩
  |_,_=>none
 |_,_=>none
section
variable{P:Program}{tbl:List (PF P)}{s:St}{look:Nat→Option SS}{ent:Nat→Option Entry}{A:List (Nat×Bool)}{nid:Nat}{o:Oper}{r:Raw}{B:Base}{ρ:Nm}{a:Act}{w:World}{K:Act→World→Prop}{Q:Exit→Act→World→Prop}
theorem aaN{T:TypeId}{x:Operand}{G:GEnt}(h:ag4 P T x=some G):x= .global G.g∧G∈GT∧ ∃ e inf,P.underlying T=some (.array G.xs.length e)∧P.info? e=some inf∧inf.size=G.t.size:=by
 unfold ag4 at h
 split at h
 ·rename_i g
  split at h
  ·rename_i G' hG
   split at h
   ·rename_i n e hT
    split at h
    ·rename_i inf vr
     cases hb:(Nat.beq inf.size G'.t.size&&(Nat.beq n G'.xs.length&&Nat.beq e G'.e))with
     |false=>rw [hb]at h;cases h
     |true=>
      rw [hb]at h;cases h
      simp only [w4]at hb
      obtain⟨h1,h2⟩:=adl hG
      have:=q8 hb.2.1
      subst this
      exact⟨by rw [h2],h1,e,inf,hT,vr,q8 hb.1⟩
    ·cases h
   ·cases h
  ·cases h
 ·cases h
theorem aeQ{H:Nat→Option Obj}(h:GlOk H){G:GEnt}(hG:G∈GT):GO H G.t (.slice (some ⟨G.g,0,none⟩) G.xs.length G.xs.length) G.xs:=by
 obtain⟨h0,arr,T,fz,h1,_,h2⟩:=h.1 G hG
 exact .inr ⟨G.g,0,G.xs.length,arr,T,fz,rfl,Nat.le_refl _,h0,h1,fun i x hx=>by rw [Nat.zero_add];exact h2 i x hx⟩
theorem ahe(c:Ctx B ρ s a w look ent A){nid:Nat}{e:TypeId}{t:CTy}{xs:List (E t)}{v:Value}(OE:s.used nid=false)(hv:GO ρ.mem t v xs):
  Ext B s.used ρ (upd ρ nid v)∧Hp B (upd ρ nid v) (aZ s.ent [(nid,.row false e t xs)]) (bk s.used [nid]) w:=
 c.hp.names (ρ':=upd ρ nid v) (es:= [(nid,.row false e t xs)]) (new:= [nid]) (Ew OE _ _) rfl fun i x hl=>by
  obtain⟨rfl,rfl⟩:=look?_one hl
  refine⟨?_,by simp [bk,memN],trivial,rfl⟩
  simp only [Entry.holds]
  rw [fy _ _ (OV hv)]
  exact hv
theorem acP(c:Ctx B ρ s a w look ent A){T:TypeId}{x ix:Operand}(ho:o.op= .indexAddr T x ix)(h:ad2 P look A nid T x ix=some r)(jM: ∀ i∈r.new,s.used i=false)(dq: ∀ b∈r.nd,b=true)
  (hC:lP B s ρ r o a K):o.wp P a w K Q:=by
 obtain⟨dst,op,ty,pos,after,guard⟩:=o
 simp only at ho;subst ho
 unfold ad2 at h
 split at h
 ·rename_i G i hG hi
  cases h
  obtain⟨rfl,hm,e,inf,hT,vr,FG⟩:=aaN hG
  have OE:=jM nid (by simp)
  have h0:0≤i:=by simpa using dq (decide (0≤i)) (by simp)
  have h1:i < G.xs.length:=by simpa using dq (decide (i < G.xs.length)) (by simp)
  obtain⟨k,hiv⟩:=c.evI hi
  obtain⟨hX,hp⟩:=ahe c (e:=G.e) OE (aeQ c.hp.hf.gl hm)
  refine au (u:= .pointer (some ⟨G.g,i.toNat * G.t.size,none⟩)) (w':=w) ?_ (hC _ _ w hX ?_ hp)
  ·have sm:a.eval (.global G.g)= .pointer (some ⟨G.g,0,none⟩):=rfl
   simp [execOp,Instr.indexAt,sm,hiv,run_underlying hT,Ll,h0,h1,sizeOf,typeInfo,vr,yo,Instr.sureAddr,FG]
  ·simp only [one,SV.conc,V1.conc,LA]
   rw [fy _ _ rfl]
   simp [Mv,VB]
 ·cases h
theorem acQ(c:Ctx B ρ s a w look ent A){T:TypeId}{x:Operand}{lo hi mx:Option Operand}(ho:o.op= .slice T x lo hi mx)(h:ad3 P look A nid T x lo hi mx=some r)(jM: ∀ i∈r.new,s.used i=false)(dq: ∀ b∈r.nd,b=true)
  (hC:lP B s ρ r o a K):o.wp P a w K Q:=by
 obtain⟨dst,op,ty,pos,after,guard⟩:=o
 simp only at ho;subst ho
 unfold ad3 at h
 split at h
 ·rename_i G hG
  split at h
  ·rename_i l m hl hm
   cases h
   obtain⟨rfl,Bp,e,inf,hT,vr,FG⟩:=aaN hG
   have OE:=jM nid (by simp)
   have h0:0≤l:=by simpa using dq (decide (0≤l)) (by simp)
   have h1:l≤m:=by simpa using dq (decide (l≤m)) (by simp)
   have h2:m≤G.xs.length:=by simpa using dq (decide (m≤G.xs.length)) (by simp)
   have hpart:=(aeQ c.hp.hf.gl Bp).part (l:=l.toNat) (m:=m.toNat) (z:=inf.size) (by omega) (by omega) FG rfl
   obtain⟨hX,hp⟩:=ahe c (e:=G.e) OE hpart
   have hr:=Yu (P:=P) (w:=w) (isS:=false) (len:=G.xs.length) (cap:=G.xs.length) (Dj c hl) (Dj c hm) h0 h1 h2 (Nat.le_refl _)
   refine au (u:= .slice (if G.xs.length=l.toNat then some ⟨G.g,0,none⟩else(some (⟨G.g,0,none⟩:Addr)).map (·.add (l.toNat * inf.size))) (m.toNat - l.toNat) (G.xs.length - l.toNat)) (w':=w) ?_ (hC _ _ w hX ?_ hp)
   ·have sm:a.eval (.global G.g)= .pointer (some ⟨G.g,0,none⟩):=rfl
    simp only [execOp,sm,Option.map_none]
    simp only [Instr.sliceAt,Sem.run_bind,run_underlying hT,Result.andThen_ok,Instr.sureAddr,Sem.run_pure,hr,sizeOf,typeInfo,vr]
    split <;> simp_all
   ·simp only [one,SV.conc,V1.conc,Cell.conc]
    rw [fy _ _ (OV hpart)]
  ·cases h
 ·cases h
end
end Go.SX
namespace Go.SX
open Go.RowKit
def ibs(s:ByteArray)(c:Int):Int:=Go.Lib.indexByte s.data.toList c.toNat.toUInt8
theorem air{fn:Func}(h:fn.name= "internal/bytealg.IndexByteString"):Extern.find fn=some Extern.BytealgIndexByte.indexByte:=by
 obtain⟨name⟩:=fn
 simp only at h
 subst h
 unfold Extern.find
 kernel_rfl
def ag9(P:Program)(k:FuncId):Bool:=
 match P.funcs[k]? with
 |some fn=>(fn.name== "internal/bytealg.IndexByteString")&&fn.body.isNone&&(Extern.findNext fn).isNone
 |none=>false
def akt(P:Program)(look:Nat→Option SS)(A:List (Nat×Bool))(f:Operand)(args:List Operand):Option Raw:=
 match evC look A f,args with
 |some (.val (.func (.func k) fi ca)),[x,y]=>match fi.toList,ca.toList,evC look A x,evC look A y with
  | [],[],some (.val (.string s)),some (.val (.int .u8 c))=>bif ag9 P k then some (.ofV (one (.val (.int .i64 (ibs s c)))))else none
  |_,_,_,_=>none
 |_,_=>none
theorem ajR{P:Program}{k:FuncId}(h:ag9 P k=true)(s:ByteArray)(c:Int)(w:World):
  (callFunc k #[.string s,.int .u8 c]).run P w= .ok (.value (.int .i64 (ibs s c))) w:=by
 unfold ag9 at h
 split at h
 ·rename_i fn hf
  simp only [w4,beq_iff_eq]at h
  obtain⟨⟨h1,h2⟩,h3⟩:=h
  rw [run_callFunc_indexByte hf (by rw [h1];decide) h2 (Option.isNone_iff_eq_none.1 h3) (air h1),Go.Lib.run_indexByteString]
  rfl
 ·cases h
section
variable{P:Program}{tbl:List (PF P)}{s:St}{look:Nat→Option SS}{ent:Nat→Option Entry}{A:List (Nat×Bool)}{nid:Nat}{o:Oper}{r:Raw}{B:Base}{ρ:Nm}{a:Act}{w:World}{K:Act→World→Prop}{Q:Exit→Act→World→Prop}
theorem af3(c:Ctx B ρ s a w look ent A){cl:Call}{f:Operand}(ho:o.op= .call cl)(hf:cl.callee= .value f)(h:akt P look A f cl.args.toList=some r)
  (hC:lP B s ρ r o a K):o.wp P a w K Q:=by
 obtain⟨dst,op,ty,pos,after,guard⟩:=o
 simp only at ho;subst ho
 unfold akt at h
 split at h
 ·rename_i k fi ca x y hk zo
  split at h
  ·rename_i str v h1 h2 hx hy
   have e1:fi= #[]:=by rw [← w7 (xs:=fi),h1]
   have e2:ca= #[]:=by rw [← w7 (xs:=ca),h2]
   subst e1;subst e2
   cases ii:ag9 P k with
   |false=>simp [ii]at h
   |true=>
    simp only [ii,cond_true]at h
    cases h
    have hkv:=(c.evC hk).1
    have sm:=(c.evC hx).1
    have Ip:=(c.evC hy).1
    simp only [Cell.conc]at hkv sm Ip
    have Cr:cl.args.map a.eval= #[.string str,.int .u8 v]:=by
     rw [← w7 (xs:=cl.args.map a.eval),Array.toList_map,zo];simp [sm,Ip]
    refine au (w':=w) ?_ (lP.same (v:=one (.val (.int .i64 (ibs str v)))) rfl hC c.hp)
    simp [execOp,resolve,hf,Deferred.ofValue,hkv,invoke,Cr,ajR ii,one,SV.conc,V1.conc,Cell.conc]
  ·cases h
 ·cases h
end
end Go.SX
namespace Go.SX
open Go.RowKit
def Zi(P:Program)(S D:TypeId):Bool:=
 match P.underlying S,P.underlying D with
 |some (.slice e),some .string=>match P.underlying e with
  |some (.int .u8)=>true
  |_=>false
 |_,_=>false
def akW(P:Program)(look:Nat→Option SS)(ent:Nat→Option Entry)(A:List (Nat×Bool))(S D:TypeId)(x:Operand):Option Raw:=
 match evC look A x with
 |some (.ref id)=>match ent id with
  |some (.row _ _ (.int .u8) xs)=>bif Zi P S D then some (.ofV (one (.val (.string (strOfNums xs)))))else none
  |_=>none
 |_=>none
def PF.rawed{P:Program}:List (PF P)→Bool
 | []=>false
 |p::_=>Nat.beq p.k 999997
def akM(fr:Bool)(look:Nat→Option SS)(A:List (Nat×Bool))(x:Operand):Option Raw:=
 bif fr then(match x,ev look A x with
  | .tmp _,some (.one v)=>some (Raw.ofV (.one v))
  |_,_=>none)else none
def PF.viewed{P:Program}:List (PF P)→Bool
 | []=>false
 |p::_=>Nat.beq p.k 999996
theorem ajU(t:CTy): ¬ t.size=0:=Nat.ne_of_gt (uW t)
def ai9(fr:Bool)(P:Program)(look:Nat→Option SS)(ent:Nat→Option Entry)(A:List (Nat×Bool))(T:TypeId)(x:Operand)(lo hi mx:Option Operand):Option Raw:=
 bif fr then(match mx,hi,lo,evC look A x with
  |none,none,some y,some (.ref id)=>match ent id,evI look A y with
   |some (.row true _ t xs),some l=>bif yO P T t then some ⟨one (.vw id t.size l.toNat),[],[],[decide (0≤l),decide (l≤xs.length)]⟩else none
   |_,_=>none
  |_,_,_,_=>none)else none
def akk(look:Nat→Option SS)(A:List (Nat×Bool))(op:BinOp)(x y:Operand):Option Raw:=
 match op,evC look A x,evC look A y with
 | .add,some (.val (.string s)),some (.val (.string t))=>some ⟨one (.val (.string (s++t))),[],[],[decide (s.size + t.size≤9223372036854775807)]⟩
 |_,_,_=>none
def VM(n:Nat):List (E (.int .i64)):=z7 n (0:Int)
theorem Ty(n:Nat):(VM n).length=n:=w9
def afW(P:Program)(look:Nat→Option SS)(ent:Nat→Option Entry)(A:List (Nat×Bool))(ts:Array TypeId)(x:Operand):Option Raw:=
 match evC look A x,ts.toList with
 |some (.ref id),[T]=>match ent id,P.underlying T with
  |some (.row true e (.int .i64) xs),some (.slice e')=>match P.info? e' with
   |some inf=>match inf.zero with
    |some (.int .i64 0)=>some ⟨.tup [],[(id,.row true e (.int .i64) (VM xs.length))],[],[]⟩
    |_=>none
   |none=>none
  |_,_=>none
 |_,_=>none
section
variable{P:Program}{tbl:List (PF P)}{s:St}{look:Nat→Option SS}{ent:Nat→Option Entry}{A:List (Nat×Bool)}{nid:Nat}{o:Oper}{r:Raw}{B:Base}{ρ:Nm}{a:Act}{w:World}{K:Act→World→Prop}{Q:Exit→Act→World→Prop}
theorem af5{α:Type}{xs:List α}{i:Nat}{d x:α}(h:xs[i]? =some x):x=xs.getD i d:=by rw [List.getD_eq_getElem?_getD,h];rfl
theorem ajT{S D:TypeId}(hT:Zi P S D=true){own:Bool}{id:Nat}{e:TypeId}{xs:List (E (.int .u8))}(hh:(Entry.row own e (.int .u8) xs).holds B ρ w id)
  (hf: ∀ b o,ρ.mem b=some o→w.heap[b]? =some o):(convert S D (ρ id)).run P w= .ok (.string (strOfNums xs)) w:=by
 unfold Zi at hT
 split at hT
 ·rename_i e' hS hD
  split at hT
  ·rename_i he
   have jw:XG (ρ id)∧xs= []∨ ∃ b off cap,ρ id= .slice (some ⟨b,off,none⟩) xs.length cap:=by
    cases own with
    |false=>
     rcases hh with⟨h4,hn⟩ | ⟨b,off,cap,arr,T',fz,h4,_⟩
     ·exact .inl ⟨h4,hn⟩
     ·exact .inr ⟨_,_,_,h4⟩
    |true=>
     obtain⟨cs,h4,_⟩:=hh
     rcases h4.2 with⟨hv,hn⟩ | ⟨g,cap,cur,hv,_⟩
     ·exact .inl ⟨hv,List.eq_nil_of_length_eq_zero hn⟩
     ·exact .inr ⟨_,_,_,hv⟩
   rcases jw with⟨hz,hn⟩ | ⟨b,off,cap,hv⟩
   ·have e0:strOfNums xs=ByteArray.empty:=by rw [hn];rfl
    rw [e0]
    rcases hz with hz | ⟨d,hz⟩
    ·rw [hz];exact run_convert_bytes_nil w S e' hS he 0 0 D hD
    ·rw [hz,run_convert_bytes_string w S D e' (some d) 0 0 hS he hD]
     exact run_bytesToString w d 0 0 [] (run_loadCells_list w d [] (fun j v hj=>by simp at hj))
   ·rw [hv]
    refine run_convert_bytes_arg w S e' hS he b off xs.length cap xs rfl (fun i hi=> ?_) D hD
    have hx:xs[i]? =some xs[i]:=List.getElem?_eq_getElem hi
    obtain⟨chunk,hr,hc⟩:=adE hh hf hx
    simp only [Rep]at hr
    have:=hc 0 (.int .u8 xs[i]) (by rw [hr];rfl)
    rw [hv]at this
    simp only [Mv,VB,CTy.size,Nat.mul_one,Nat.add_zero]at this
    rw [this]
    exact congrArg some (congrArg (Value.int .u8) (af5 (α:=Int) hx))
  ·cases hT
 ·cases hT
theorem agJ(c:Ctx B ρ s a w look ent A){S D:TypeId}{x:Operand}(ho:o.op= .convert S D x)(h:akW P look ent A S D x=some r)
  (hC:lP B s ρ r o a K):o.wp P a w K Q:=by
 obtain⟨dst,op,ty,pos,after,guard⟩:=o
 simp only at ho;subst ho
 unfold akW at h
 split at h
 ·rename_i id hx
  split at h
  ·rename_i own e xs he
   cases hT:Zi P S D with
   |false=>simp [hT]at h
   |true=>
    simp only [hT,cond_true]at h
    cases h
    have sm:=(c.evC hx).1
    simp only [Cell.conc]at sm
    obtain⟨hh,_,_⟩:=c.hp.he _ _ (c.hE _ _ he)
    refine au (w':=w) ?_ (lP.same (v:=one (.val (.string (strOfNums xs)))) rfl hC c.hp)
    simp [execOp,sm,ajT hT hh c.hp.hf.dat,one,SV.conc,V1.conc,Cell.conc]
  ·cases h
 ·cases h
def aaD(P:Program)(look:Nat→Option SS)(A:List (Nat×Bool))(T:TypeId)(x:Operand)(lo hi mx:Option Operand):Option Raw:=
 match mx,evC look A x with
 |none,some (.val (.slice none 0 0))=>match bnd look A lo 0,bnd look A hi 0,P.underlying T with
  |some l,some h,some (.slice e)=>match P.info? e with
   |some _=>some ⟨one (.val (.slice none 0 0)),[],[],[decide (0≤l),decide (l≤h),decide (h≤0)]⟩
   |none=>none
  |_,_,_=>none
 |_,_=>none
theorem abn(c:Ctx B ρ s a w look ent A){T:TypeId}{x:Operand}{lo hi mx:Option Operand}(ho:o.op= .slice T x lo hi mx)(h:aaD P look A T x lo hi mx=some r)
  (dq: ∀ b∈r.nd,b=true) (hC:lP B s ρ r o a K):o.wp P a w K Q:=by
 obtain⟨dst,op,ty,pos,after,guard⟩:=o
 simp only at ho;subst ho
 unfold aaD at h
 split at h
 ·rename_i hx
  split at h
  ·rename_i l m e hl hm hT
   split at h
   ·rename_i inf vr
    cases h
    have h0:0≤l:=by simpa using dq (decide (0≤l)) (by simp)
    have h1:l≤m:=by simpa using dq (decide (l≤m)) (by simp)
    have h2:m≤0:=by simpa using dq (decide (m≤0)) (by simp)
    have sm:=(c.evC hx).1
    simp only [Cell.conc]at sm
    have hm':bnd look A hi ((0:Nat):Int)=some m:=hm
    have hr:=NM (P:=P) (w:=w) (b:=none) (len:=0) (cap:=0) hT vr (Dj c hl) (Dj c hm') h0 h1 (by simpa using h2) (Nat.le_refl _)
    obtain rfl:l=0:=by omega
    obtain rfl:m=0:=by omega
    refine au (w':=w) ?_ (lP.same (v:=one (.val (.slice none 0 0))) rfl hC c.hp)
    simp only [Int.toNat_zero]at hr
    simp [execOp,sm,hr,one,SV.conc,V1.conc,Cell.conc]
   ·cases h
  ·cases h
 ·cases h
def adO(P:Program)(look:Nat→Option SS)(ent:Nat→Option Entry)(A:List (Nat×Bool))(nid:Nat)(ts:Array TypeId)(x y:Operand):Option Raw:=
 match evC look A x,evC look A y,ts.toList with
 |some (.val (.slice none 0 0)),some (.ref jd),[t1,t2]=>match ent jd with
  |some (.row _ _ t ys)=>match P.underlying t1 with
   |some (.slice e)=>match P.info? e with
    |some inf=>match inf.zero with
     |some z=>bif Nat.beq t1 t2&&Nat.beq inf.size t.size&&Nat.beq z.cells.size t.size then
       some ⟨one (.ref nid),[(nid,.row true e t ys)],[nid],[decide (ys.length≤9223372036854775807),decide (ys.length * inf.bytes≤140737488355328)]⟩
      else none
     |none=>none
    |none=>none
   |_=>none
  |_=>none
 |_,_,_=>none
theorem acL(c:Ctx B ρ s a w look ent A){cl:Call}{x y:Operand}(ho:o.op= .call cl)(hb:cl.callee= .builtin .append)(zo:cl.args.toList= [x,y])(h:adO P look ent A nid cl.argTypes x y=some r)(jM: ∀ i∈r.new,s.used i=false)
  (dq: ∀ b∈r.nd,b=true) (hC:lP B s ρ r o a K):o.wp P a w K Q:=by
 obtain⟨dst,op,ty,pos,after,guard⟩:=o
 simp only at ho;subst ho
 have Cr:cl.args= #[x,y]:=by rw [← w7 (xs:=cl.args),zo]
 unfold adO at h
 split at h
 ·rename_i jd t1 t2 hx hy hts
  split at h
  ·rename_i own e2 t ys he2
   split at h
   ·rename_i e hT
    split at h
    ·rename_i inf vr
     split at h
     ·rename_i z hz
      cases ii:(Nat.beq t1 t2&&Nat.beq inf.size t.size&&Nat.beq z.cells.size t.size)with
      |false=>simp [ii]at h
      |true=>
       simp only [ii,cond_true]at h
       cases h
       simp only [w4]at ii
       obtain⟨⟨k1,k3⟩,k4⟩:=ii
       have k1:=q8 k1
       have k3:=q8 k3
       have k4:=q8 k4
       subst k1
       have n1:ys.length≤9223372036854775807:=by simpa using dq (decide (ys.length≤9223372036854775807)) (by simp)
       have n2:ys.length * inf.bytes≤140737488355328:=by simpa using dq (decide (ys.length * inf.bytes≤140737488355328)) (by simp)
       have hat:cl.argTypes= #[t1,t1]:=by rw [← w7 (xs:=cl.argTypes),hts]
       have sm:=(c.evC hx).1
       have Ip:=(c.evC hy).1
       simp only [Cell.conc]at sm Ip
       obtain⟨hh2,_,_⟩:=c.hp.he _ _ (c.hE _ _ he2)
       have OE:s.used nid=false:=jM nid (by simp)
       have h0:CC w e t.size (.slice none 0 0) 0 []:=Sm w e t.size
       have fin: ∀ v' w' cs',(Builtin.append_ #[t1,t1] ty #[.slice none 0 0,ρ jd]).run P w= .ok v' w'→CC w' e t.size v' ys.length cs'→jY ρ.mem t cs' ys→Chg w w' (fun k=>k∈fB (.slice none 0 0))→(∀ b∈fB v',w.heap.size≤b∨b∈fB (.slice none 0 0))→
         Oper.wp P ⟨dst,.call cl,ty,pos,after,guard⟩ a w K Q:=by
        intro v' w' cs' hr pT qE hg hbl
        obtain⟨hX,hp⟩:=c.hp.rowNew OE ⟨hg.os,hg.tape,hg.output,hg.size,fun k hk _=>hg.block k hk (by simp [fB])⟩ pT qE (fun b hb=>(hbl b hb).elim id (fun h=>by simp [fB]at h))
        refine au (u:=v') (w':=w') ?_ (hC _ v' w' hX ?_ hp)
        ·simp [execOp,resolve,hb,invoke,builtin,Cr,sm,Ip,hat,hr]
        ·simp only [one,SV.conc,V1.conc,Cell.conc]
         rw [fy _ _ (sX pT)]
       rcases Na hh2 c.hp.hf.dat with⟨hv,hn⟩ | ⟨b,off,cap,news,hv,qE,Gt,TZ,hcells⟩
       ·subst hn
        rcases hv with hv | ⟨b,hv⟩
        ·have hr:=Fm (P:=P) (w:=w) t1 ty e inf t.size hT vr (.slice none 0 0) 0 [] h0
         rw [← hv]at hr
         exact fin _ _ [] (by rw [hv]at hr ⊢;exact hr) (by simpa using h0) (jY.nil _ _) (Chg.refl _ _) fun b hb=>by simp [fB]at hb
        ·obtain⟨v',w',hr,g1,g2,g3⟩:=uV (P:=P) t1 ty e inf z t.size inf.bytes hT vr hz k3 rfl k4 (uW t) (.slice none 0 0) 0 [] h0 b 0 0 [] (by simp) (fun j u hj=>by simp at hj) (fun u hu=>by simp at hu) (xQ (by simp)) (by simp)
         rw [← hv]at hr
         exact fin _ _ _ hr (by simpa using g1) (by simpa using jY.nil ρ.mem t) g2 g3
       ·obtain⟨v',w',hr,g1,g2,g3⟩:=uV (P:=P) t1 ty e inf z t.size inf.bytes hT vr hz k3 rfl k4 (uW t) (.slice none 0 0) 0 [] h0 ⟨b,off,none⟩ ys.length cap news qE.1 hcells qE.cell_one (xQ (by omega)) (by simpa using n2)
        rw [← hv]at hr
        refine fin _ _ _ hr (by simpa using g1) (by simpa using qE) g2 g3
     ·cases h
    ·cases h
   ·cases h
  ·cases h
 ·cases h
def aaG(tr:Bool)(P:Program)(look:Nat→Option SS)(ent:Nat→Option Entry)(A:List (Nat×Bool))(nid:Nat)(T:TypeId)(x y:Operand):Option Raw:=
 bif tr then
  match evC look A x,evC look A y with
  |some (.ptr id off),some (.val (.slice none 0 0))=>match ent id with
   |some (.box U cs)=>
    let f:=FE P true T nid ⟨false,[.val (.slice none 0 0)]⟩
    bif AD P T off cs.length f.v.cs then some ⟨Yy,(id,.box U (cs.take off++f.v.cs++cs.drop (off + f.v.cs.length)))::f.es,sG f.es,[]⟩else none
   |_=>none
  |_,_=>none
 else none
theorem abo(c:Ctx B ρ s a w look ent A){tr:Bool}{T:TypeId}{x y:Operand}(ho:o.op= .store T x y)(h:aaG tr P look ent A nid T x y=some r)(jM: ∀ i∈r.new,s.used i=false)
  (hC:lP B s ρ r o a K):o.wp P a w K Q:=by
 obtain⟨dst,op,ty,pos,after,guard⟩:=o
 simp only at ho;subst ho
 unfold aaG at h
 cases tr with
 |false=>cases h
 |true=>
  simp only [cond_true]at h
  split at h
  ·rename_i id off hx hy
   split at h
   ·rename_i U cs he
    cases ii:AD P T off cs.length (FE P true T nid ⟨false,[.val (.slice none 0 0)]⟩).v.cs with
    |false=>simp [ii]at h
    |true=>
     simp only [ii,cond_true]at h
     cases h
     have zp:=c.hE _ _ he
     have sm:=(c.evC hx).1
     have Ip:=(c.evC hy).1
     simp only [Cell.conc]at Ip
     obtain⟨ρ',hX,_,hp,_,_,Tg⟩:=Ta (P:=P) (tr:=true) (T:=T) (n:=nid) (v:=⟨false,[.val (.slice none 0 0)]⟩) c.hp (by intro c hc;simp only [j6]at hc;subst hc;trivial) jM
     have jy:=(c.hp.he _ _ zp).2.1
     have hlk:look? (FE P true T nid ⟨false,[.val (.slice none 0 0)]⟩).es id=none:=by
      cases hl:look? (FE P true T nid ⟨false,[.val (.slice none 0 0)]⟩).es id with
      |none=>rfl
      |some e=>
       have:=jM id (ab8 hl)
       rw [jy]at this;cases this
     have hent':aZ s.ent (FE P true T nid ⟨false,[.val (.slice none 0 0)]⟩).es id=some (.box U cs):=by simp only [aZ,hlk,zp]
     obtain⟨⟨b,h1,h2,_⟩,_,BV⟩:=hp.he _ _ hent'
     have hnid:ρ' id=ρ id:=hX.nm id jy
     have hvc:(Value.slice none 0 0).cells=((FE P true T nid ⟨false,[.val (.slice none 0 0)]⟩).v.cs.map (Cell.conc ρ')).toArray:=by rw [Tg];rfl
     have hr:=Nb (P:=P) (ρ:=ρ') (w:=w) (b:=b) (off:=off) (v:= .slice none 0 0) ii (fun h=>by simpa using h) hvc h2
     obtain⟨hX2,hp2⟩:=hp.setBox hent' (ns:=cs.take off++(FE P true T nid ⟨false,[.val (.slice none 0 0)]⟩).v.cs++cs.drop (off + (FE P true T nid ⟨false,[.val (.slice none 0 0)]⟩).v.cs.length)) (fun c' hc=>by
      simp only [List.append_assoc,List.mem_append]at hc
      rcases hc with hc | hc | hc
      ·exact BV c' (List.mem_of_mem_take hc)
      ·exact aeP (U:=bk s.used (sG (FE P true T nid ⟨false,[.val (.slice none 0 0)]⟩).es)) (by intro c hc;simp only [j6]at hc;subst hc;trivial) (fun i hi=>vM hi) c' hc
      ·exact BV c' (List.mem_of_mem_drop hc))
     have hbk:Mv (ρ' id)=b:=by rw [h1];rfl
     rw [hbk]at hp2
     rw [ZB,← hnid,hbk]at sm
     refine KZ (w':=w.setRow b ((cs.take off++(FE P true T nid ⟨false,[.val (.slice none 0 0)]⟩).v.cs++cs.drop (off + (FE P true T nid ⟨false,[.val (.slice none 0 0)]⟩).v.cs.length)).map (Cell.conc ρ')).toArray) ?_
      (hC ρ' _ _ hX (SV.conc_ofValue ρ' undef).symm (by rw [yP]at hp2;exact hp2))
     have hr':(storeVar T ⟨b,off,none⟩ (.slice none 0 0)).run P w= .ok () (w.setRow b ((cs.take off++(FE P true T nid ⟨false,[.val (.slice none 0 0)]⟩).v.cs++cs.drop (off + (FE P true T nid ⟨false,[.val (.slice none 0 0)]⟩).v.cs.length)).map (Cell.conc ρ')).toArray):=by
      rw [hr];simp [List.map_take,List.map_drop]
     simp [execOp,Instr.storeAt,sm,Ip,Instr.sureAddr,hr']
   ·cases h
  ·cases h
theorem ags(c:Ctx B ρ s a w look ent A){fr:Bool}{x:Operand}(ho:o.op= .move x)(h:akM fr look A x=some r)
  (hC:lP B s ρ r o a K):o.wp P a w K Q:=by
 obtain⟨dst,op,ty,pos,after,guard⟩:=o
 simp only at ho;subst ho
 unfold akM at h
 cases fr with
 |false=>cases h
 |true=>
  simp only [cond_true]at h
  split at h
  ·rename_i t v hx
   cases h
   have sm:=(c.ev hx).1
   refine au (w':=w) ?_ (lP.same (v:= .one v) rfl hC c.hp)
   simp [execOp,sm,Sem.run_pure]
  ·cases h
theorem afC(c:Ctx B ρ s a w look ent A){fr:Bool}{T:TypeId}{x:Operand}{lo hi mx:Option Operand}(ho:o.op= .slice T x lo hi mx)(h:ai9 fr P look ent A T x lo hi mx=some r)
  (dq: ∀ b∈r.nd,b=true) (hC:lP B s ρ r o a K):o.wp P a w K Q:=by
 obtain⟨dst,op,ty,pos,after,guard⟩:=o
 simp only at ho;subst ho
 unfold ai9 at h
 cases fr with
 |false=>cases h
 |true=>
  simp only [cond_true]at h
  split at h
  ·rename_i y id hx
   split at h
   ·rename_i e t xs l he hl
    cases ii:yO P T t with
    |false=>simp [ii]at h
    |true=>
     simp only [ii,cond_true]at h
     cases h
     unfold yO at ii
     split at ii
     ·rename_i e' hT
      split at ii
      ·rename_i inf vr
       have FG:=q8 ii
       have h0:0≤l:=by simpa using dq (decide (0≤l)) (by simp)
       have h1:l≤xs.length:=by simpa using dq (decide (l≤(xs.length:Int))) (by simp)
       obtain⟨hh,_,_⟩:=c.hp.he _ _ (c.hE _ _ he)
       have sm:=(c.evC hx).1
       simp only [Cell.conc]at sm
       have hsl: ∃ b cap,ρ id= .slice b xs.length cap∧xs.length≤cap:=by
        rcases Na hh c.hp.hf.dat with⟨hv,hn⟩ | ⟨b,off,cap,news,hv,_,Gt,_⟩
        ·subst hn;obtain⟨b0,hb0⟩:=Fy hv;exact⟨b0,0,hb0,Nat.le_refl _⟩
        ·exact⟨_,cap,hv,Gt⟩
       obtain⟨b,cap,hv,Gt⟩:=hsl
       have hb:bnd look A (some y) 0=some l:=hl
       have hr:=NM (P:=P) (w:=w) (b:=b) (len:=xs.length) (cap:=cap) (hi:=none) (h:=xs.length) hT vr (Dj c hb) (.inl ⟨rfl,rfl⟩) h0 h1 (Int.le_refl _) Gt
       refine au (w':=w) ?_ (lP.same (v:=one (.vw id t.size l.toNat)) rfl hC c.hp)
       simp only [execOp,sm,hv,one,SV.conc,V1.conc,Cell.conc,vwN,if_neg (ajU t),HX]
       rw [FG]at hr
       simp only [Option.map_none,Sem.run_bind,hr,Result.andThen_ok,Sem.run_pure,Int.toNat_natCast]
      ·cases ii
     ·cases ii
   ·cases h
  ·cases h
theorem agw(H:Nat→Option Obj)(n:Nat):jY H (.int .i64) (z7 n (Value.int .i64 0)) (VM n):=by
 refine⟨by rw [Ty,w9];exact(Nat.mul_one _).symm,fun i y hy=> ?_⟩
 have hy2:(z7 n (0:Int))[i]? =some y:=hy
 obtain⟨gm,hye⟩:=z6.1 hy2
 have hl:i < (z7 n (Value.int .i64 0)).length:=by simpa using gm
 have h0:(0:Int)=y:=by rw [← hye];exact(List.getElem_replicate _).symm
 simp only [Rep,CTy.size,Nat.mul_one]
 rw [List.drop_eq_getElem_cons hl,List.take_succ_cons,List.take_zero,List.getElem_replicate]
 exact congrArg (fun y=> [Value.int .i64 y]) h0
theorem adT(c:Ctx B ρ s a w look ent A){cl:Call}{x:Operand}(ho:o.op= .call cl)(hb:cl.callee= .builtin .clear)(zo:cl.args.toList= [x])(h:afW P look ent A cl.argTypes x=some r)
  (hC:lP B s ρ r o a K):o.wp P a w K Q:=by
 obtain⟨dst,op,ty,pos,after,guard⟩:=o
 simp only at ho;subst ho
 have Cr:cl.args= #[x]:=by rw [← w7 (xs:=cl.args),zo]
 unfold afW at h
 split at h
 ·rename_i id T hx hts
  have hat:cl.argTypes= #[T]:=by rw [← w7 (xs:=cl.argTypes),hts]
  split at h
  ·rename_i e xs e' he hT
   split at h
   ·rename_i inf vr
    split at h
    ·rename_i hz
     cases h
     have zp:=c.hE _ _ he
     obtain⟨⟨cs,h1,h2,h3⟩,jy,_⟩:=c.hp.he _ _ zp
     have sm:=(c.evC hx).1
     simp only [Cell.conc]at sm
     have hzero: ∀ w',(zeroValue e').run P w'= .ok (.int .i64 0) w':=fun w'=>by simp [zeroValue,typeInfo,vr,hz]
     have jw:(VM xs.length).length=xs.length:=Ty _
     have fin: ∀ W cs',(Builtin.clear_ #[T] ty #[ρ id]).run P w= .ok (.tuple #[]) W→CC W e (CTy.int IntKind.i64).size (ρ id) (VM xs.length).length cs'→jY ρ.mem (.int .i64) cs' (VM xs.length)→Chg w W (fun k=>k∈fB (ρ id))→
       Oper.wp P ⟨dst,.call cl,ty,pos,after,guard⟩ a w K Q:=by
      intro W cs' hr pT qE hg
      obtain⟨hX,hp⟩:=c.hp.rowSet (xs':=VM xs.length) zp hg pT qE
      refine au (u:= .tuple #[]) (w':=W) ?_ (hC ρ _ W hX rfl (by simpa [Qg] using hp))
      simp [execOp,resolve,hb,invoke,builtin,Cr,hat,sm,hr]
     have qE:jY ρ.mem (.int .i64) (z7 xs.length (Value.int .i64 0)) (VM xs.length):=agw _ _
     rcases h1.2 with⟨hv,hn⟩ | ⟨g,cap,cur,hv,hc0,hg,Gt,TZ,FG,Ub⟩
     ·have hn:xs.length=0:=hn
      have Jr:cs= []:=List.length_eq_zero_iff.1 (by rw [h1.1,hn,Nat.zero_mul])
      have e0:VM xs.length= []:=by rw [hn];rfl
      refine fin w [] ?_ (by rw [e0];exact⟨by simp,.inl ⟨hv,rfl⟩⟩) (by rw [e0];exact jY.nil _ _) (Chg.refl _ _)
      rcases hv with hv | ⟨d,hv⟩ <;> simp [Builtin.clear_,hv,run_underlying hT]
     ·have FG:cur.size=cap:=by rw [FG];exact Nat.mul_one _
      by_cases hn:xs.length=0
      ·have Jr:cs= []:=List.length_eq_zero_iff.1 (by rw [h1.1,hn,Nat.zero_mul])
       have e0:VM xs.length= []:=by rw [hn];rfl
       refine fin w [] ?_ (by rw [e0];rw [hn,Jr]at h1;exact h1) (by rw [e0];exact jY.nil _ _) (Chg.refl _ _)
       rw [hv,hn];simp [Builtin.clear_,run_underlying hT]
      ·obtain⟨m,hm⟩: ∃ m,xs.length=m + 1:=⟨xs.length - 1,by omega⟩
       have RX:=run_storeCells_at P g 0 e (z7 xs.length (Value.int .i64 (0:Int))) 0 cur w hg (by simp;omega) (fun u hu=>by rw [List.eq_of_mem_replicate hu];rfl)
       obtain⟨W,hW⟩: ∃ W,W=w.setRow g (cur.toList.take 0++z7 xs.length (Value.int .i64 0)++cur.toList.drop (0 + xs.length)).toArray:=⟨_,rfl⟩
       have hzc:(Builtin.zeroCells (Value.int .i64 0).cells xs.length).toList=z7 xs.length (Value.int .i64 0):=by
        simp only [Value.cells,Builtin.zeroCells]
        apply List.ext_getElem
        ·simp
        ·intro i h1 h2
         simp [Nat.mod_one]
       refine fin W _ ?_ ?_ qE ?_
       ·rw [hv]
        rw [hm]at RX hzc hW ⊢
        have hst2:(storeCells ⟨g,0,none⟩ (z7 (m + 1) (Value.int .i64 0))).run P w= .ok () W:=by rw [hW];simpa using RX
        simp only [Builtin.clear_]
        simp [run_underlying hT,hzero,hzc,hst2]
       ·refine⟨by rw [Ty,w9];exact(Nat.mul_one _).symm,.inr ⟨g,cap,_,by rw [jw];exact hv,hc0,by rw [hW];exact setRow_heap w g _ _ e _ hg,by rw [jw];exact Gt,TZ,?_,?_⟩⟩
        ·simp only [List.size_toArray,w5,w6,w9,List.length_drop,Array.length_toList]
         show _=cap * 1
         omega
        ·show (_:List Value).take ((VM xs.length).length * 1)=_
         rw [jw,Nat.mul_one];simp
       ·refine Chg.own (v:=ρ id) ?_ ?_
        ·rw [hv,hW]
         exact⟨rfl,rfl,rfl,by simp [World.setRow],fun k _ hk=>setRow_other w g k _ fun e=>hk (by simp [Value.ownBlock,e])⟩
        ·intro k hk
         rw [hv]at hk ⊢;simp only [Value.ownBlock,w3]at hk;rw [sn hc0,← hk];simp
    ·cases h
   ·cases h
  ·cases h
 ·cases h
theorem afU(c:Ctx B ρ s a w look ent A){bop:BinOp}{T T':TypeId}{x y:Operand}(ho:o.op= .binOp bop T x y T')(h:akk look A bop x y=some r)(dq: ∀ b∈r.nd,b=true)(hC:lP B s ρ r o a K):o.wp P a w K Q:=by
 obtain⟨dst,op,ty,pos,after,guard⟩:=o
 simp only at ho;subst ho
 unfold akk at h
 split at h
 ·rename_i u v hx hy
  cases h
  have hz:u.size + v.size≤9223372036854775807:=by simpa using dq (decide (u.size + v.size≤9223372036854775807)) (by simp)
  have sm:=(c.evC hx).1
  have Ip:=(c.evC hy).1
  simp only [Cell.conc]at sm Ip
  refine au (w':=w) ?_ (lP.same (v:=one (.val (.string (u++v)))) rfl hC c.hp)
  simp [execOp,eqGuard,sm,Ip,binOp_string_add,run_string_add_sum w u v hz,one,SV.conc,V1.conc,Cell.conc]
 ·cases h
def Yx(P:Program)(look:Nat→Option SS)(ent:Nat→Option Entry)(A:List (Nat×Bool))(nid:Nat)(T:TypeId)(x y:Operand):Option Raw:=
 match evC look A x,ev1 look A y with
 |some (.el id z i off),some v=>match ent id,v.cells? with
  |some (.row true e t xs),some ns=>bif Nat.beq z t.size&&(AD P T off t.size ns&& !(t.flat||Nat.beq off 0&&Nat.beq ns.length t.size))then
    match AM (aZ ent (Hl t (xs[i]?.getD (sW t)) nid)) t ((sR t (xs[i]?.getD (sW t)) nid).take off++ns++(sR t (xs[i]?.getD (sW t)) nid).drop (off + ns.length))with
    |some (y',l)=>bif memN l id then none else some ⟨Yy,((id,.row true e t (xs.set i y'))::frz (aZ ent (Hl t (xs[i]?.getD (sW t)) nid)) l)++Hl t (xs[i]?.getD (sW t)) nid,aK nid t.nsl,[decide (i < xs.length)]⟩
    |none=>none
   else none
  |_,_=>none
 |_,_=>none
theorem aaH(c:Ctx B ρ s a w look ent A){T:TypeId}{x y:Operand}(ho:o.op= .store T x y)(h:Yx P look ent A nid T x y=some r)(jM: ∀ i∈r.new,s.used i=false)(dq: ∀ b∈r.nd,b=true)(hC:lP B s ρ r o a K):o.wp P a w K Q:=by
 obtain⟨dst,op,ty,pos,after,guard⟩:=o
 simp only at ho;subst ho
 unfold Yx at h
 split at h
 ·rename_i id z i off v hx hy
  split at h
  ·rename_i e t xs ns he hns
   cases ii:(Nat.beq z t.size&&(AD P T off t.size ns&& !(t.flat||Nat.beq off 0&&Nat.beq ns.length t.size)))with
   |false=>simp only [ii,cond_false]at h;cases h
   |true=>
    simp only [ii,cond_true]at h
    simp only [w4]at ii
    obtain⟨k1,k2,_⟩:=ii
    have:=q8 k1;subst this
    split at h
    ·rename_i y' l Rt
     cases hm:memN l id with
     |true=>simp [hm]at h
     |false=>
      simp only [hm,cond_false]at h
      cases h
      have hi:i < xs.length:=by simpa using dq (decide (i < xs.length)) (by simp)
      have zp:=c.hE _ _ he
      have sm:=(c.evC hx).1
      obtain⟨Ip,hyin⟩:=c.ev1 hy
      have hnin:=V1.cells?_inU hyin hns
      obtain⟨⟨cs0,p1,p2,p3⟩,hidu,_⟩:=c.hp.he _ _ zp
      obtain⟨ρ',m',f',k',e',r'⟩:=Ts t _ _ nid ρ (p2.2 i _ (Tc (d:=sW t) hi))
      have Ff: ∀ id,s.used id=true→ρ' id=ρ id:=fun id jy=>k' id (by
       have: ¬ (nid≤id∧id < nid + t.nsl):=fun hh=>by
        have:=jM id (memN_mem.1 (oW.2 hh))
        rw [this]at jy;cases jy
       omega)
      obtain⟨hX0,hp0⟩:=c.hp.names (es:=Hl t (xs[i]?.getD (sW t)) nid) (new:=aK nid t.nsl) Ff m' (hfp:=fun id _ _=>by rw [f']) fun id e he=>by
       obtain⟨h0,h3,h4⟩:=r' id e he
       rcases h0 with rfl | ⟨e0,t0,ys,rfl,hr⟩
       ·exact⟨trivial,vM (memN_mem.1 (oW.2 ⟨h3,h4⟩)),trivial,rfl⟩
       ·exact⟨by simp only [Entry.holds];rw [m'];exact hr,vM (memN_mem.1 (oW.2 ⟨h3,h4⟩)),trivial,rfl⟩
      have hE': ∀ j en,aZ ent (Hl t (xs[i]?.getD (sW t)) nid) j=some en→aZ s.ent (Hl t (xs[i]?.getD (sW t)) nid) j=some en:=fun j en hj=>by
       simp only [aZ]at hj ⊢
       cases hl:look? (Hl t (xs[i]?.getD (sW t)) nid) j with
       |none=>rw [hl]at hj;exact c.hE _ _ hj
       |some en'=>rw [hl]at hj;exact hj
      have hidN:look? (Hl t (xs[i]?.getD (sW t)) nid) id=none:=by
       cases hl:look? (Hl t (xs[i]?.getD (sW t)) nid) id with
       |none=>rfl
       |some en=>
        obtain⟨_,h3,h4⟩:=r' id en hl
        have:=jM id (memN_mem.1 (oW.2 ⟨h3,h4⟩))
        rw [hidu]at this;cases this
      obtain⟨ρ1,n1,x1,h1⟩:=hp0.freezes hE' l
      have hnl:id∉l:=fun hh=>by rw [memN_mem.2 hh]at hm;cases hm
      have hent1:aZ (aZ s.ent (Hl t (xs[i]?.getD (sW t)) nid)) (frz (aZ ent (Hl t (xs[i]?.getD (sW t)) nid)) l) id=some (.row true e t xs):=by
       simp only [aZ,look?_frz_not hnl,hidN];exact zp
      obtain⟨⟨cs,g1,g2,g3⟩,_,_⟩:=h1.he _ _ hent1
      have qE:=Lf hE' h1 t _ _ _ Rt fun i hi=>hi
      have gm:=tO (z:=t.size) hi
      have jy:ρ1 id=ρ id:=(Nm.of_nm n1 id).trans (Ff id hidu)
      rcases g1.2 with⟨_,hn⟩ | ⟨g,cap,cur,hv,hc0,hg,Gt,TZ,FG,Ub⟩
      ·omega
      ·have Jr:cs0=cs:=by
        rcases p1.2 with⟨_,hn⟩ | ⟨g',cap',cur',hv',_,hg',_,_,_,htk'⟩
        ·omega
        ·rw [jy,hv']at hv
         have hgg:g'=g:=by simpa using (Value.slice.inj hv).1
         subst hgg
         have Tg:cur'=cur:=by rw [hg']at hg;simpa using hg
         subst Tg
         rw [← htk',← Ub]
       subst Jr
       have hle2:xs.length * t.size≤cur.size:=by rw [FG];exact Nat.mul_le_mul_right _ Gt
       have hns':off + ns.length≤t.size:=by
        unfold AD at k2
        split at k2
        ·simp only [w4]at k2;exact z8 k2.1.2
        ·cases k2
       have hr:=Nb (ρ:=ρ) (w:=w) (b:=g) (off:=i * t.size + off) (cur:=cur) k2 (fun h=>by omega) (V1.cells?_conc ρ hns) hg
       obtain⟨W,hW⟩: ∃ W,W=w.setRow g (cur.toList.take (i * t.size + off)++ns.map (Cell.conc ρ)++cur.toList.drop (i * t.size + off + ns.length)).toArray:=⟨_,rfl⟩
       rw [← hW]at hr
       have hgr:w.grownBy W (ρ1 id).ownBlock:=by
        rw [hv,hW]
        exact⟨rfl,rfl,rfl,by simp [World.setRow],fun k _ hk=>setRow_other w g k _ fun e=>hk (by simp [Value.ownBlock,e])⟩
       have hspl:=VX cur.toList (ns.map (Cell.conc ρ)) (i * t.size) off t.size (xs.length * t.size) (by simpa using hns') gm (by simpa using hle2)
       have pT:W.ownsRow 0 e t.size (ρ1 id) (xs.set i y').length ((cur.toList.take (i * t.size + off)++ns.map (Cell.conc ρ)++cur.toList.drop (i * t.size + off + ns.length)).take (xs.length * t.size)):=by
        refine⟨?_,.inr ⟨g,cap,(cur.toList.take (i * t.size + off)++ns.map (Cell.conc ρ)++cur.toList.drop (i * t.size + off + ns.length)).toArray,?_,Nat.zero_le _,?_,?_,TZ,?_,?_⟩⟩
        ·simp only [j7,w6,w5,List.length_map,List.length_drop,Array.length_toList];omega
        ·rw [j7];exact hv
        ·rw [hW];exact setRow_heap w g _ _ e _ hg
        ·rw [j7];exact Gt
        ·simp only [List.size_toArray,w6,w5,List.length_map,List.length_drop,Array.length_toList];omega
        ·rw [j7]
       have hnmap:ns.map (Cell.conc ρ')=ns.map (Cell.conc ρ):=uQ Ff hnin
       have hds:jY ρ1.mem t ((cur.toList.take (i * t.size + off)++ns.map (Cell.conc ρ)++cur.toList.drop (i * t.size + off + ns.length)).take (xs.length * t.size)) (xs.set i y'):=by
        rw [List.length_map]at hspl
        rw [hspl,Ub]
        refine jY.set g2 hi ?_
        rw [Vs n1]at qE
        simp only [List.map_append,List.map_take,List.map_drop,← e',hnmap]at qE
        exact qE
       obtain⟨hX,hp⟩:=h1.rowSet hent1 (Chg.own hgr fun k hk=>by rw [hv]at hk ⊢;simp only [Value.ownBlock,w3]at hk;rw [sn hc0,← hk];simp) (LU pT) hds
       rw [yP,yP]at hp
       refine KZ (w':=W) ?_ (hC ρ1 _ W ((hX0.trans x1 fun _ h=>ic _ h).trans hX fun _ h=>ic _ h) (SV.conc_ofValue ρ1 undef).symm hp)
       rw [LA]at sm
       rw [jy]at hv
       simp only [hv,Mv,VB,Nat.zero_add]at sm
       simp [execOp,Instr.storeAt,sm,Ip,Instr.sureAddr,hr]
    ·cases h
  ·cases h
 ·cases h
end
end Go.SX
namespace Go.SX
open Go.RowKit
def PF.parts(P:Program):PF P where
 k:=999994
 F:=fun _ _=>none
 ok:=fun _ _ _ h=>by cases h
def PF.parted{P:Program}:List (PF P)→Bool
 | []=>false
 |p::_=>Nat.beq p.k 999994
def aiT(fr:Bool)(P:Program)(look:Nat→Option SS)(ent:Nat→Option Entry)(A:List (Nat×Bool))(T:TypeId)(x:Operand)(lo hi mx:Option Operand):Option Raw:=
 bif fr then(match mx,lo,hi,evC look A x with
  |none,none,some y,some (.ref id)=>match ent id,evI look A y with
   |some (.row true _ t xs),some l=>bif yO P T t then some ⟨one (.vw id 0 l.toNat),[],[],[decide (0≤l),decide (l≤xs.length)]⟩else none
   |_,_=>none
  |_,_,_,_=>none)else none
def JB{α:Type}(xs:List α)(k:Nat)(ys:List α):List α:=xs.take k++(ys.take (xs.length - k)++xs.drop (k + (ys.take (xs.length - k)).length))
theorem OO{α:Type}{xs ys:List α}{k:Nat}(h:k≤xs.length):(JB xs k ys).length=xs.length:=by
 simp only [JB,w5,w6,List.length_drop];omega
theorem ZY{α:Type}{xs ys:List α}{k:Nat}(h:ys.take (xs.length - k)= []):JB xs k ys=xs:=by
 simp only [JB,h,List.length_nil,Nat.add_zero,List.nil_append,List.take_append_drop]
def aic(P:Program)(look:Nat→Option SS)(ent:Nat→Option Entry)(A:List (Nat×Bool))(ts:Array TypeId)(x y:Operand):Option Raw:=
 match evC look A x,evC look A y,ts.toList with
 |some (.ref id),some (.ref id2),[T,_]=>match ent id,ent id2 with
  |some (.row true e (.int .i64) xs),some (.row _ _ (.int .i64) ys)=>bif yO P T (.int .i64)&& !Nat.beq id id2 then
    some ⟨one (.val (.int .i64 ((List.take (xs.length - 0) ys).length:Int))),[(id,.row true e (.int .i64) (JB xs 0 ys))],[],[]⟩else none
  |_,_=>none
 |some (.vw id z k),some (.vw id2 z2 m),[T,_]=>match ent id with
  |some (.row true e (.int .i64) xs)=>bif yO P T (.int .i64)&&(Nat.beq id id2&&(Nat.beq z 1&&Nat.beq z2 0))then
    some ⟨one (.val (.int .i64 ((List.take (xs.length - k) (List.take m xs)).length:Int))),[(id,.row true e (.int .i64) (JB xs k (List.take m xs)))],[],[decide (k≤xs.length),decide (m≤xs.length)]⟩else none
  |_=>none
 |_,_,_=>none
def abK(P:Program)(look:Nat→Option SS)(A:List (Nat×Bool))(nid:Nat)(ts:Array TypeId)(x y:Operand):Option Raw:=
 match evC look A x,evI look A y,ts.toList with
 |some (.val (.slice none 0 0)),some n,[T,T2]=>match P.underlying T,P.underlying T2 with
  |some (.slice e),some (.int _)=>match P.info? e,abU P 12 e with
   |some inf,some t=>match inf.zero with
    |some z=>match AM (fun _=>none) t (z.cells.toList.map .val)with
     |some (x0,_)=>bif Nat.beq inf.size 1&&(Nat.beq t.size 1&&(t.flat&&Nat.beq z.cells.size 1))then
       some ⟨one (.ref nid),[(nid,.row true e t (z7 n.toNat x0))],[nid],[decide (1≤n),decide (n≤9223372036854775807),decide (n * (inf.bytes:Int)≤281474976710656)]⟩else none
     |none=>none
    |none=>none
   |_,_=>none
  |_,_=>none
 |_,_,_=>none
theorem jY.i64s{H:Nat→Option Obj}: ∀ {cs:List Value} {xs:List Int},jY H (.int .i64) cs xs→cs=xs.map (Value.int .i64):=by
 intro cs xs h
 refine List.ext_getElem? fun i=> ?_
 have hl:cs.length=xs.length:=by rw [h.1];exact Nat.mul_one _
 by_cases hi:i < xs.length
 ·have:=h.2 i xs[i] (List.getElem?_eq_getElem hi)
  simp only [Rep,CTy.size,Nat.mul_one]at this
  have h2:=congrArg (fun l=>l[0]?) this
  simp [List.getElem?_take,List.getElem?_drop]at h2
  simp [h2,List.getElem?_eq_getElem hi]
 ·rw [List.getElem?_eq_none (by omega),List.getElem?_eq_none (by simp;omega)]
theorem jY.to_i64s{H:Nat→Option Obj}(xs:List Int):jY H (.int .i64) (xs.map (Value.int .i64)) xs:=by
 refine⟨by rw [List.length_map];exact(Nat.mul_one _).symm,fun i x hx=> ?_⟩
 simp only [Rep,CTy.size,Nat.mul_one]
 obtain⟨gm,he⟩:=z6.1 hx
 have hl:i < (xs.map (Value.int .i64)).length:=by rw [List.length_map];exact gm
 rw [List.drop_eq_getElem_cons hl,List.take_succ_cons,List.take_zero,List.getElem_map]
 exact congrArg (fun y=> [Value.int .i64 y]) he
section
variable{P:Program}{tbl:List (PF P)}{s:St}{look:Nat→Option SS}{ent:Nat→Option Entry}{A:List (Nat×Bool)}{nid:Nat}{o:Oper}{r:Raw}{B:Base}{ρ:Nm}{a:Act}{w:World}{K:Act→World→Prop}{Q:Exit→Act→World→Prop}
theorem adg{g cap:Nat}{cur:Array Value}{e dT sT ty el:TypeId}{xs ys:List Int}{k:Nat}{dp sp:Option Addr}{dCap sCap:Nat}
  (hu:P.underlying dT=some (.slice el)) (hs:(P.info? el).map (·.size)=some 1)
  (hg:w.heap[g]? =some (.cells cur e (0,0))) (FG:cur.size=cap) (Gt:xs.length≤cap) (Ub:cur.toList.take xs.length=xs.map (Value.int .i64)) (hk:k≤xs.length)
  (hdp:0 < xs.length - k→dp=some ⟨g,k,none⟩)
  (hsp:0 < ys.length→ ∃ ad,sp=some ad∧ ∀ j v,ys[j]? =some v→w.cell? (ad.add j)=some (.int .i64 v)):
  ∃ (W:World) (cur':Array Value),(Builtin.copy_ #[dT,sT] ty #[.slice dp (xs.length - k) dCap,.slice sp ys.length sCap]).run P w= .ok (.int .i64 ((ys.take (xs.length - k)).length:Int)) W∧
   Chg w W (fun b=>b=g)∧W.heap[g]? =some (.cells cur' e (0,0))∧cur'.size=cap∧cur'.toList.take xs.length=(JB xs k ys).map (Value.int .i64):=by
 have jw:(ys.take (xs.length - k)).length=Nat.min ys.length (xs.length - k):=by rw [w6];exact Nat.min_comm ..
 by_cases h0:(ys.take (xs.length - k)).length=0
 ·have hr:=run_copy_none (P:=P) w dT sT ty el dp sp (xs.length - k) dCap ys.length sCap hu hs (by rw [← jw];exact h0)
  refine⟨w,cur,?_,Chg.refl _ _,hg,FG,?_⟩
  ·rw [h0];exact hr
  ·rw [ZY (List.length_eq_zero_iff.1 h0)];exact Ub
 ·have hmin:0 < Nat.min ys.length (xs.length - k):=by omega
  have hm1:Nat.min ys.length (xs.length - k)≤ys.length:=Nat.min_le_left ..
  have hm2:Nat.min ys.length (xs.length - k)≤xs.length - k:=Nat.min_le_right ..
  obtain⟨ad,rfl,hsrc⟩:=hsp (by omega)
  obtain rfl:=hdp (by omega)
  have hr:=run_copy_row (P:=P) w dT sT ty el g k (xs.length - k) dCap ad ys.length sCap cur e ((ys.take (xs.length - k)).map (Value.int .i64)) hu hs hg (by rw [List.length_map];exact jw)
   (fun j v hj=>by
    rw [List.getElem?_map,q9]at hj
    obtain⟨u,hu',rfl⟩:=hj
    rw [List.getElem?_take]at hu'
    split at hu'
    ·exact hsrc j u hu'
    ·cases hu') (by rw [List.length_map];omega) (fun v hv=>by obtain⟨u,_,rfl⟩:=List.mem_map.1 hv;rfl)
  refine⟨_,(cur.toList.take k++(ys.take (xs.length - k)).map (Value.int .i64)++cur.toList.drop (k + ((ys.take (xs.length - k)).map (Value.int .i64)).length)).toArray,?_,Chg.setRow w g _,setRow_heap w g cur _ e _ hg,?_,?_⟩
  ·rw [hr,List.length_map];rfl
  ·simp only [List.size_toArray,w5,w6,List.length_map,List.length_drop,Array.length_toList]
   rw [w6]at jw
   omega
  ·have hX: ∃ tl,cur.toList=xs.map (Value.int .i64)++tl:=⟨cur.toList.drop xs.length,by rw [← Ub,List.take_append_drop]⟩
   obtain⟨tl,hX⟩:=hX
   have hkl:k + (ys.take (xs.length - k)).length≤xs.length:=by omega
   have e1:cur.toList.take k=(xs.take k).map (Value.int .i64):=by
    rw [hX,List.take_append_of_le_length (by rw [List.length_map];exact hk),List.map_take]
   have e2:cur.toList.drop (k + (ys.take (xs.length - k)).length)=(xs.drop (k + (ys.take (xs.length - k)).length)).map (Value.int .i64)++tl:=by
    rw [hX,List.drop_append_of_le_length (by rw [List.length_map];exact hkl),List.map_drop]
   show List.take xs.length (cur.toList.take k++(ys.take (xs.length - k)).map (Value.int .i64)++cur.toList.drop (k + ((ys.take (xs.length - k)).map (Value.int .i64)).length))=_
   rw [List.length_map,e1,e2]
   have e3:(xs.take k).map (Value.int .i64)++(ys.take (xs.length - k)).map (Value.int .i64)++((xs.drop (k + (ys.take (xs.length - k)).length)).map (Value.int .i64)++tl)=(JB xs k ys).map (Value.int .i64)++tl:=by
    simp only [JB,List.map_append,List.append_assoc]
   rw [e3,List.take_append_of_le_length (by rw [List.length_map,OO hk];exact Nat.le_refl _),List.take_of_length_le (by rw [List.length_map,OO hk];exact Nat.le_refl _)]
theorem afg(c:Ctx B ρ s a w look ent A){fr:Bool}{T:TypeId}{x:Operand}{lo hi mx:Option Operand}(ho:o.op= .slice T x lo hi mx)(h:aiT fr P look ent A T x lo hi mx=some r)
  (dq: ∀ b∈r.nd,b=true) (hC:lP B s ρ r o a K):o.wp P a w K Q:=by
 obtain⟨dst,op,ty,pos,after,guard⟩:=o
 simp only at ho;subst ho
 unfold aiT at h
 cases fr with
 |false=>cases h
 |true=>
  simp only [cond_true]at h
  split at h
  ·rename_i y id hx
   split at h
   ·rename_i e t xs l he hl
    cases ii:yO P T t with
    |false=>simp [ii]at h
    |true=>
     simp only [ii,cond_true]at h
     cases h
     unfold yO at ii
     split at ii
     ·rename_i e' hT
      split at ii
      ·rename_i inf vr
       have h0:0≤l:=by simpa using dq (decide (0≤l)) (by simp)
       have h1:l≤xs.length:=by simpa using dq (decide (l≤(xs.length:Int))) (by simp)
       obtain⟨hh,_,_⟩:=c.hp.he _ _ (c.hE _ _ he)
       have sm:=(c.evC hx).1
       simp only [Cell.conc]at sm
       have hsl: ∃ b cap,ρ id= .slice b xs.length cap∧xs.length≤cap∧(cap=0∨ ∃ g,b=some ⟨g,0,none⟩):=by
        obtain⟨cs,k1,_,_⟩:=hh
        rcases k1.2 with⟨hv,hn⟩ | ⟨g,cap,cur,hv,_,_,Gt,_⟩
        ·obtain⟨b0,hb0⟩:=Fy hv
         have hn0:xs.length=0:=hn
         exact⟨b0,0,by rw [hn0];exact hb0,by omega,.inl rfl⟩
        ·exact⟨_,cap,hv,Gt,.inr ⟨g,rfl⟩⟩
       obtain⟨b,cap,hv,Gt,hb0⟩:=hsl
       have hb:bnd look A (some y) (xs.length:Int)=some l:=hl
       have hhi:=Dj c hb
       have hr:=NM (P:=P) (w:=w) (b:=b) (len:=xs.length) (cap:=cap) (lo:=none) (l:=0) hT vr (.inl ⟨rfl,rfl⟩) hhi (Int.le_refl _) h0 h1 Gt
       have hbb:(if cap=(0:Int).toNat then b else b.map (·.add ((0:Int).toNat * inf.size)))=b:=by
        simp only [Int.toNat_zero,Nat.zero_mul]
        rcases hb0 with hc | ⟨g,rfl⟩
        ·rw [if_pos hc]
        ·simp [Addr.add]
       rw [hbb]at hr
       refine au (w':=w) ?_ (lP.same (v:=one (.vw id 0 l.toNat)) rfl hC c.hp)
       simp only [execOp,sm,hv,one,SV.conc,V1.conc,Cell.conc,vwN,HX]
       simp only [Int.toNat_zero,Nat.sub_zero]at hr
       simp only [Option.map_none,Sem.run_bind,hr,Result.andThen_ok,Sem.run_pure,if_true]
      ·cases ii
     ·cases ii
   ·cases h
  ·cases h
theorem akZ(c:Ctx B ρ s a w look ent A){dst:Option Nat}{ty:TypeId}{pos after guard}{cl:Call}{x y:Operand}(hb:cl.callee= .builtin .copy)(Cr:cl.args= #[x,y]){id id2:Nat}{T T2 e e2 el:TypeId}{own:Bool}{xs ys:List Int}
  (hat:cl.argTypes= #[T,T2]) (he:ent id=some (.row true e (.int .i64) xs)) (he2:ent id2=some (.row own e2 (.int .i64) ys)) (hu:P.underlying T=some (.slice el)) (hs:(P.info? el).map (·.size)=some 1)
  (hx:evC look A x=some (.ref id)) (hy:evC look A y=some (.ref id2))
  (hC:lP B s ρ ⟨one (.val (.int .i64 ((List.take (xs.length - 0) ys).length:Int))),[(id,.row true e (.int .i64) (JB xs 0 ys))],[],[]⟩ ⟨dst,.call cl,ty,pos,after,guard⟩ a K):
  Oper.wp P ⟨dst,.call cl,ty,pos,after,guard⟩ a w K Q:=by
 have zp:=c.hE _ _ he
 obtain⟨⟨cs,h1,h2,h3⟩,jy,_⟩:=c.hp.he _ _ zp
 have Jr:cs=xs.map (Value.int .i64):=jY.i64s h2
 have h1:CC w e 1 (ρ id) (List.length (α:=Int) xs) cs:=h1
 have sm:=(c.evC hx).1
 have Ip:=(c.evC hy).1
 simp only [Cell.conc]at sm Ip
 have hsrcv: ∃ sp sCap,ρ id2= .slice sp ys.length sCap∧(0 < List.length ys→ ∃ ad,sp=some ad∧ ∀ j v,ys[j]? =some v→w.cell? (ad.add j)=some (.int .i64 v)):=by
  rcases Na (c.hp.he _ _ (c.hE _ _ he2)).1 c.hp.hf.dat with⟨hv,hn⟩ | ⟨b,off,cap,news,hv,qE,_,_,hcell⟩
  ·obtain⟨b0,hb0⟩:=Fy hv
   have hn:ys= []:=hn
   rw [hn]
   exact⟨b0,0,hb0,fun h=>absurd h (Nat.lt_irrefl 0)⟩
  ·have hnews:news=ys.map (Value.int .i64):=jY.i64s qE
   refine⟨_,cap,hv,fun _=>⟨_,rfl,fun j v hj=>hcell j _ ?_⟩⟩
   rw [hnews,List.getElem?_map,hj];rfl
 obtain⟨sp,sCap,hyy,hsp⟩:=hsrcv
 have fin: ∀ (W:World) (cs':List Value),(Builtin.copy_ #[T,T2] ty #[ρ id,ρ id2]).run P w= .ok (.int .i64 ((List.take (xs.length - 0) ys).length:Int)) W→Chg w W (fun b=>b∈fB (ρ id))→
   CC W e 1 (ρ id) (List.length (α:=Int) (JB xs 0 ys)) cs'→cs'=(JB xs 0 ys).map (Value.int .i64)→Oper.wp P ⟨dst,.call cl,ty,pos,after,guard⟩ a w K Q:=by
  intro W cs' hr Th pT hcs'
  have qE:jY ρ.mem (.int .i64) cs' (JB xs 0 ys):=by rw [hcs'];exact jY.to_i64s _
  obtain⟨hX,hp⟩:=c.hp.rowSet (t:= .int .i64) (w':=W) (xs':=JB xs 0 ys) zp Th pT qE
  refine au (u:= .int .i64 ((List.take (xs.length - 0) ys).length:Int)) (w':=W) ?_ (hC ρ _ W hX rfl (by simpa [Qg] using hp))
  simp only [execOp,resolve,hb,invoke,builtin,Cr,hat,List.map_toArray,w8,List.map_nil,sm,Ip]
  simp [hr]
 have jw:=OO (xs:=xs) (ys:=ys) (k:=0) (Nat.zero_le _)
 rcases h1.2 with⟨hv,hn⟩ | ⟨g,cap,cur,hv,hc0,hg,Gt,TZ,FG,Ub⟩
 ·obtain⟨b0,hb0⟩:=Fy hv
  have hx0:xs= []:=List.length_eq_zero_iff.1 hn
  have e0:JB xs 0 ys=xs:=ZY (by rw [hn];simp)
  have hr:=run_copy_none (P:=P) w T T2 ty el b0 sp 0 0 ys.length sCap hu hs (Nat.min_zero _)
  refine fin w cs ?_ (Chg.refl _ _) (by rw [e0];exact h1) (by rw [e0];exact Jr)
  rw [hb0,hyy,hr,hx0];simp [goInt]
 ·have FG:cur.size=cap:=by rw [FG];exact Nat.mul_one _
  have Ub:cur.toList.take xs.length=xs.map (Value.int .i64):=by rw [← Jr,← Ub];congr 1;exact(Nat.mul_one _).symm
  obtain⟨W,cur',hr,Th,hg',hsz',htk'⟩:=adg (P:=P) (w:=w) (ty:=ty) (sT:=T2) (k:=0) (ys:=ys) (dCap:=cap) (sCap:=sCap) (dp:=some ⟨g,0,none⟩) (sp:=sp) hu hs hg FG Gt Ub (Nat.zero_le _) (fun _=>rfl) hsp
  refine fin W _ ?_ ⟨Th.os,Th.tape,Th.output,Th.size,fun k hk hnk=>Th.block k hk fun hkg=>hnk (by rw [hv,sn hc0,hkg];simp)⟩
   ⟨by rw [List.length_map];exact(Nat.mul_one _).symm,.inr ⟨g,cap,cur',by rw [jw];exact hv,hc0,hg',by rw [jw];exact Gt,TZ,by rw [hsz'];exact(Nat.mul_one _).symm,by rw [jw,← htk'];congr 1;exact Nat.mul_one _⟩⟩ rfl
  rw [hv,hyy]
  exact hr
theorem ak0(c:Ctx B ρ s a w look ent A){dst:Option Nat}{ty:TypeId}{pos after guard}{cl:Call}{x y:Operand}(hb:cl.callee= .builtin .copy)(Cr:cl.args= #[x,y]){id k m:Nat}{T T2 e el:TypeId}{xs:List Int}
  (hat:cl.argTypes= #[T,T2]) (he:ent id=some (.row true e (.int .i64) xs)) (hu:P.underlying T=some (.slice el)) (hs:(P.info? el).map (·.size)=some 1)
  (hx:evC look A x=some (.vw id 1 k)) (hy:evC look A y=some (.vw id 0 m)) (hk:k≤xs.length) (hm:m≤xs.length)
  (hC:lP B s ρ ⟨one (.val (.int .i64 ((List.take (xs.length - k) (List.take m xs)).length:Int))),[(id,.row true e (.int .i64) (JB xs k (List.take m xs)))],[],[decide (k≤xs.length),decide (m≤xs.length)]⟩ ⟨dst,.call cl,ty,pos,after,guard⟩ a K):
  Oper.wp P ⟨dst,.call cl,ty,pos,after,guard⟩ a w K Q:=by
 have zp:=c.hE _ _ he
 obtain⟨⟨cs,h1,h2,h3⟩,jy,_⟩:=c.hp.he _ _ zp
 have Jr:cs=xs.map (Value.int .i64):=jY.i64s h2
 have h1:CC w e 1 (ρ id) (List.length (α:=Int) xs) cs:=h1
 have sm:=(c.evC hx).1
 have Ip:=(c.evC hy).1
 simp only [Cell.conc]at sm Ip
 have fin: ∀ (W:World) (cs':List Value),(Builtin.copy_ #[T,T2] ty #[HX (vwN 1 k (ρ id)),HX (vwN 0 m (ρ id))]).run P w= .ok (.int .i64 ((List.take (xs.length - k) (List.take m xs)).length:Int)) W→Chg w W (fun b=>b∈fB (ρ id))→
   CC W e 1 (ρ id) (List.length (α:=Int) (JB xs k (List.take m xs))) cs'→cs'=(JB xs k (List.take m xs)).map (Value.int .i64)→Oper.wp P ⟨dst,.call cl,ty,pos,after,guard⟩ a w K Q:=by
  intro W cs' hr Th pT hcs'
  have qE:jY ρ.mem (.int .i64) cs' (JB xs k (List.take m xs)):=by rw [hcs'];exact jY.to_i64s _
  obtain⟨hX,hp⟩:=c.hp.rowSet (t:= .int .i64) (w':=W) (xs':=JB xs k (List.take m xs)) zp Th pT qE
  refine au (u:= .int .i64 ((List.take (xs.length - k) (List.take m xs)).length:Int)) (w':=W) ?_ (hC ρ _ W hX rfl (by simpa [Qg] using hp))
  simp only [execOp,resolve,hb,invoke,builtin,Cr,hat,List.map_toArray,w8,List.map_nil,sm,Ip]
  simp [hr]
 have hml:(List.take m xs).length=m:=by rw [w6];omega
 have jw:=OO (xs:=xs) (ys:=List.take m xs) (k:=k) hk
 rcases h1.2 with⟨hv,hn⟩ | ⟨g,cap,cur,hv,hc0,hg,Gt,TZ,FG,Ub⟩
 ·obtain⟨b0,hb0⟩:=Fy hv
  have hk0:k=0:=by omega
  have hm0:m=0:=by omega
  subst hk0 hm0
  have e0:JB xs 0 (List.take 0 xs)=xs:=ZY (by simp)
  have hr:=run_copy_none (P:=P) w T T2 ty el b0 b0 0 0 0 0 hu hs (Nat.min_zero _)
  refine fin w cs ?_ (Chg.refl _ _) (by rw [e0];exact h1) (by rw [e0];exact Jr)
  rw [hb0]
  simp [vwN,HX,hr,goInt]
 ·have FG:cur.size=cap:=by rw [FG];exact Nat.mul_one _
  have Ub:cur.toList.take xs.length=xs.map (Value.int .i64):=by rw [← Jr,← Ub];congr 1;exact(Nat.mul_one _).symm
  have hcell: ∀ j v,(List.take m xs)[j]? =some v→w.cell? ((⟨g,0,none⟩:Addr).add j)=some (.int .i64 v):=by
   intro j v hj
   rw [List.getElem?_take]at hj
   split at hj
   ·have hjl:=(z6.1 hj).1
    have h5:(cur.toList.take xs.length)[j]? =some (.int .i64 v):=by rw [Ub,List.getElem?_map,hj];rfl
    rw [List.getElem?_take,if_pos hjl]at h5
    rw [yo,wQ hg]
    simpa using h5
   ·cases hj
  obtain⟨W,cur',hr,Th,hg',hsz',htk'⟩:=adg (P:=P) (w:=w) (ty:=ty) (sT:=T2) (k:=k) (ys:=List.take m xs) (dCap:=cap - k) (sCap:=cap) (dp:=if cap=k then some ⟨g,0,none⟩else(some (⟨g,0,none⟩:Addr)).map (·.add (k * 1))) (sp:=some ⟨g,0,none⟩) hu hs hg FG Gt Ub hk
   (fun hpos=>by
    have Oc: ¬ cap=k:=by omega
    rw [if_neg Oc]
    simp only [Option.map_some,Nat.mul_one,yo,Nat.zero_add])
   (fun _=>⟨_,rfl,hcell⟩)
  refine fin W _ ?_ ⟨Th.os,Th.tape,Th.output,Th.size,fun b hb' hnk=>Th.block b hb' fun hkg=>hnk (by rw [hv,sn hc0,hkg];simp)⟩
   ⟨by rw [List.length_map];exact(Nat.mul_one _).symm,.inr ⟨g,cap,cur',by rw [jw];exact hv,hc0,hg',by rw [jw];exact Gt,TZ,by rw [hsz'];exact(Nat.mul_one _).symm,by rw [jw,← htk'];congr 1;exact Nat.mul_one _⟩⟩ rfl
  rw [hml]at hr
  rw [hv]
  simp only [vwN,HX,if_true,if_false,Nat.one_ne_zero]
  exact hr
theorem XF(v:Value)(n:Nat):(Builtin.zeroCells #[v] n).toList=z7 n v:=by
 simp only [Builtin.zeroCells]
 apply List.ext_getElem
 ·simp
 ·intro i h1 h2
  simp [Nat.mod_one]
theorem adt{α:Type}(v:α): ∀ m,ro (z7 m [v])=z7 m v
 |0=>rfl
 |m + 1=>by rw [List.replicate_succ,List.replicate_succ,ro,adt v m];rfl
theorem abL(c:Ctx B ρ s a w look ent A){cl:Call}{x y:Operand}(ho:o.op= .call cl)(hb:cl.callee= .builtin .append)(zo:cl.args.toList= [x,y])(h:abK P look A nid cl.argTypes x y=some r)
  (jM: ∀ i∈r.new,s.used i=false) (dq: ∀ b∈r.nd,b=true) (hC:lP B s ρ r o a K):o.wp P a w K Q:=by
 obtain⟨dst,op,ty,pos,after,guard⟩:=o
 simp only at ho;subst ho
 have Cr:cl.args= #[x,y]:=by rw [← w7 (xs:=cl.args),zo]
 unfold abK at h
 split at h
 ·rename_i n T T2 hx hy hts
  have hat:cl.argTypes= #[T,T2]:=by rw [← w7 (xs:=cl.argTypes),hts]
  split at h
  ·rename_i e k hT hT2
   split at h
   ·rename_i inf t vr ht
    split at h
    ·rename_i z hz
     split at h
     ·rename_i x0 ids Rt
      cases ii:(Nat.beq inf.size 1&&(Nat.beq t.size 1&&(t.flat&&Nat.beq z.cells.size 1)))with
      |false=>simp [ii]at h
      |true=>
       simp only [ii,cond_true]at h
       cases h
       simp only [w4]at ii
       obtain⟨k1,k2,_,k4⟩:=ii
       have k1:=q8 k1
       have k2:=q8 k2
       have k4:=q8 k4
       have n0:1≤n:=of_decide_eq_true (dq _ (List.mem_cons_self ..))
       have n1:n≤9223372036854775807:=of_decide_eq_true (dq _ (List.mem_cons_of_mem _ (List.mem_cons_self ..)))
       have n2:n * (inf.bytes:Int)≤281474976710656:=of_decide_eq_true (dq _ (List.mem_cons_of_mem _ (List.mem_cons_of_mem _ (List.mem_cons_self ..))))
       have sm:=(c.evC hx).1
       obtain⟨kl,Ip⟩:=c.evI hy
       simp only [Cell.conc]at sm
       obtain⟨m,rfl⟩: ∃ m:Nat,n=(m:Int):=⟨n.toNat,by omega⟩
       have hm2:m * inf.bytes≤281474976710656:=by rw [← Int.natCast_mul]at n2;omega
       have hr:=Lib.run_append_nil_zeros (P:=P) w T T2 ty e inf z kl k hT hT2 vr hz m (by omega) (by omega) n1 hm2
       have qE:=SY (ρ:=ρ) (H:=ρ.mem) t _ _ _ Rt
       rw [OW]at qE
       obtain⟨zv,hzv⟩: ∃ zv,z.cells= #[zv]:=by
        rcases hc:z.cells with⟨l⟩
        rw [hc]at k4
        match l,k4 with
        | [v],_=>exact⟨v,rfl⟩
       have hcap:=grownCap_ge w m 0 e
       have FG:(Builtin.zeroCells z.cells m++Builtin.zeroCells z.cells (grownCap w m 0 e - m)).size=grownCap w m 0 e * t.size:=by
        rw [Array.size_append,size_zeroCells,size_zeroCells,k4,k2];omega
       have jw:(z7 (m:Int).toNat x0).length=m:=by simp
       have pT:CC (w.drew.alloc (.cells (Builtin.zeroCells z.cells m++Builtin.zeroCells z.cells (grownCap w m 0 e - m)) e)) e t.size (.slice (some ⟨w.heap.size,0,none⟩) m (grownCap w m 0 e)) (z7 (m:Int).toNat x0).length (z7 m zv):=by
        rw [jw]
        refine⟨by rw [w9,k2,Nat.mul_one],.inr ⟨w.heap.size,grownCap w m 0 e,_,rfl,by omega,heap_alloc_new w.drew _,hcap,?_,FG,?_⟩⟩
        ·by_cases hml:m≤maxLen
         ·exact grownCap_le_maxLen w m 0 e hml
         ·exact absurd (xQ (n:=m) (by omega)) hml
        ·rw [k2,Nat.mul_one,Array.toList_append,hzv,XF,XF,List.take_append_of_le_length (by simp),List.take_of_length_le (by simp)]
       have hrepl:jY ρ.mem t (z7 m zv) (z7 (m:Int).toNat x0):=by
        have h2:=jY.replicate qE m
        rw [hzv]at h2
        have h2:jY ρ.mem t (ro (z7 m [zv])) (z7 m x0):=h2
        rw [adt]at h2
        simpa using h2
       obtain⟨hX,hp⟩:=c.hp.rowNew (nid:=nid) (jM nid (by simp)) (w':=w.drew.alloc (.cells (Builtin.zeroCells z.cells m++Builtin.zeroCells z.cells (grownCap w m 0 e - m)) e))
        ⟨rfl,rfl,rfl,(World.grownBy_alloc w.drew _ none).size,fun q hq hn=>(World.grownBy_alloc w.drew _ none).block q hq hn⟩ pT hrepl (fun b hb=>Nat.le_of_eq (ND hb).symm)
       refine au ?_ (hC _ (.slice (some ⟨w.heap.size,0,none⟩) m (grownCap w m 0 e)) _ hX ?_ hp)
       ·simp only [execOp,resolve,hb,invoke,builtin,Cr,hat,List.map_toArray,w8,List.map_nil,sm,Ip]
        simp [hr]
       ·simp only [one,SV.conc,V1.conc,Cell.conc]
        rw [fy _ _ rfl]
     ·cases h
    ·cases h
   ·cases h
  ·cases h
 ·cases h
theorem aeL(c:Ctx B ρ s a w look ent A){cl:Call}{x y:Operand}(ho:o.op= .call cl)(hb:cl.callee= .builtin .copy)(zo:cl.args.toList= [x,y])(h:aic P look ent A cl.argTypes x y=some r)
  (dq: ∀ b∈r.nd,b=true) (hC:lP B s ρ r o a K):o.wp P a w K Q:=by
 obtain⟨dst,op,ty,pos,after,guard⟩:=o
 simp only at ho;subst ho
 have Cr:cl.args= #[x,y]:=by rw [← w7 (xs:=cl.args),zo]
 have hT1: ∀ T,yO P T (.int .i64)=true→ ∃ el,P.underlying T=some (.slice el)∧(P.info? el).map (·.size)=some 1:=by
  intro T ii
  unfold yO at ii
  split at ii
  ·rename_i e' hT
   split at ii
   ·rename_i inf vr
    exact⟨e',hT,by rw [vr,Option.map_some,q8 ii];rfl⟩
   ·cases ii
  ·cases ii
 unfold aic at h
 split at h
 ·rename_i id id2 T T2 hx hy hts
  have hat:cl.argTypes= #[T,T2]:=by rw [← w7 (xs:=cl.argTypes),hts]
  split at h
  ·rename_i e xs own e2 ys he he2
   cases ii:(yO P T (.int .i64)&& !Nat.beq id id2)with
   |false=>rw [ii]at h;cases h
   |true=>
    rw [ii]at h
    simp only [w4]at ii
    cases h
    obtain⟨el,hu,hs⟩:=hT1 T ii.1
    exact akZ c hb Cr hat he he2 hu hs hx hy hC
  ·cases h
 ·rename_i id z k id2 z2 m T T2 hx hy hts
  have hat:cl.argTypes= #[T,T2]:=by rw [← w7 (xs:=cl.argTypes),hts]
  split at h
  ·rename_i e xs he
   cases ii:(yO P T (.int .i64)&&(Nat.beq id id2&&(Nat.beq z 1&&Nat.beq z2 0)))with
   |false=>rw [ii]at h;cases h
   |true=>
    rw [ii]at h
    simp only [w4]at ii
    obtain⟨ii,hid2,hz,hz2⟩:=ii
    obtain rfl:=q8 hid2
    obtain rfl:=q8 hz
    obtain rfl:=q8 hz2
    cases h
    have hk:k≤xs.length:=by simpa using dq (decide (k≤xs.length)) (by simp)
    have hm:m≤xs.length:=by simpa using dq (decide (m≤xs.length)) (by simp)
    obtain⟨el,hu,hs⟩:=hT1 T ii
    exact ak0 c hb Cr hat he hu hs hx hy hk hm hC
  ·cases h
 ·cases h
def NK{α:Type}(z k:Nat)(l:List α):List α:=bif Nat.beq z 0 then l.take k else l.drop k
theorem jY.drop{H:Nat→Option Obj}{t:CTy}{cs:List Value}{xs:List (E t)}(h:jY H t cs xs){m:Nat}(hm:m≤xs.length):jY H t (cs.drop (m * t.size)) (xs.drop m):=by
 refine⟨by rw [List.length_drop,List.length_drop,h.1,Nat.sub_mul],fun i x hx=> ?_⟩
 rw [List.getElem?_drop]at hx
 have:=h.2 (m + i) x hx
 rw [List.drop_drop,← Nat.add_mul]
 exact this
theorem ajb{id:Nat}{e:TypeId}{t:CTy}{xs:List (E t)}(h:(Entry.row true e t xs).holds B ρ w id)(hf: ∀ b o,ρ.mem b=some o→w.heap[b]? =some o){z k:Nat}(hz:z=0∨z=t.size)(hk:k≤xs.length):
  (XG (vwN z k (ρ id))∧NK z k xs= [])∨ ∃ b off c news,vwN z k (ρ id)= .slice (some ⟨b,off,none⟩) (NK z k xs).length c∧jY ρ.mem t news (NK z k xs)∧
   (∀ j u,news[j]? =some u→w.cell? ((⟨b,off,none⟩:Addr).add j)=some u):=by
 rcases Na h hf with⟨hv,hn⟩ | ⟨b,off,cap,news,hv,qE,Gt,_,hcells⟩
 ·left
  subst hn
  have hk0:k=0:=by simpa using hk
  subst hk0
  refine⟨?_,by simp only [NK];cases Nat.beq z 0 <;> rfl⟩
  rcases hv with hv | ⟨a,hv⟩
  ·left;rw [hv];simp only [vwN];split <;> rfl
  ·right;exact⟨a,by rw [hv];simp only [vwN];split <;> simp⟩
 ·right
  rw [hv]
  rcases hz with rfl | rfl
  ·refine⟨b,off,cap,news.take (k * t.size),?_,?_,fun j u hj=> ?_⟩
   ·simp only [vwN,NK,Nat.beq,cond_true,if_pos,w6,Nat.min_eq_left hk]
   ·exact qE.take hk
   ·rw [List.getElem?_take]at hj
    split at hj
    ·exact hcells j u hj
    ·cases hj
  ·have hs:=uW t
   have hb:Nat.beq t.size 0=false:=by
    cases hq:Nat.beq t.size 0 with
    |false=>rfl
    |true=>have:=q8 hq;omega
   have hp:NK t.size k xs=xs.drop k:=by simp only [NK,hb,cond_false]
   rw [hp]
   by_cases hc:cap=k
   ·have hl:(xs.drop k).length=0:=by rw [List.length_drop];omega
    have hx:=List.length_eq_zero_iff.1 hl
    refine⟨b,off,cap - k,[],?_,by rw [hx];exact jY.nil _ _,fun j u hj=>by simp at hj⟩
    simp only [vwN,if_neg (show ¬ t.size=0 by omega),if_pos hc,List.length_drop]
   ·refine⟨b,off + k * t.size,cap - k,news.drop (k * t.size),?_,qE.drop hk,fun j u hj=> ?_⟩
    ·simp only [vwN,if_neg (show ¬ t.size=0 by omega),if_neg hc,Option.map_some,yo,List.length_drop]
    ·rw [List.getElem?_drop]at hj
     have:=hcells _ u hj
     rw [yo]at this ⊢
     rw [Nat.add_assoc];exact this
def abI(P:Program)(look:Nat→Option SS)(ent:Nat→Option Entry)(A:List (Nat×Bool))(nid:Nat)(ts:Array TypeId)(x y:Operand):Option Raw:=
 match evC look A x,evC look A y,ts.toList with
 |some (.ref id),some (.vw jd z k),[t1,t2]=>match ent id,ent jd with
  |some (.row true e t xs),some (.row true _ t' ys)=>match P.underlying t1,P.info? e with
   |some (.slice e'),some inf=>match inf.zero with
    |some zz=>if h:t'=t then
      bif Nat.beq t1 t2&&Nat.beq e' e&&Nat.beq inf.size t.size&&Nat.beq zz.cells.size t.size&&(Nat.beq z 0||Nat.beq z t'.size)then
       some ⟨one (.ref nid),[(nid,.row true e t (xs++NK z k (h ▸ ys))),(id,.gone)],[nid],[decide (k≤ys.length),decide (xs.length + (NK z k ys).length≤9223372036854775807),decide ((xs.length + (NK z k ys).length) * inf.bytes≤140737488355328)]⟩
      else none
     else none
    |none=>none
   |_,_=>none
  |_,_=>none
 |_,_,_=>none
theorem abJ(c:Ctx B ρ s a w look ent A){cl:Call}{x y:Operand}(ho:o.op= .call cl)(hb:cl.callee= .builtin .append)(zo:cl.args.toList= [x,y])(h:abI P look ent A nid cl.argTypes x y=some r)(jM: ∀ i∈r.new,s.used i=false)(dq: ∀ b∈r.nd,b=true)(hC:lP B s ρ r o a K):o.wp P a w K Q:=by
 obtain⟨dst,op,ty,pos,after,guard⟩:=o
 simp only at ho;subst ho
 have Cr:cl.args= #[x,y]:=by rw [← w7 (xs:=cl.args),zo]
 unfold abI at h
 split at h
 ·rename_i id jd z k t1 t2 hx hy hts
  split at h
  ·rename_i e t xs e2 t' ys he1 he2
   split at h
   ·rename_i e' inf hT vr
    split at h
    ·rename_i zz hzz
     split at h
     ·rename_i ht
      subst ht
      cases ii:(Nat.beq t1 t2&&Nat.beq e' e&&Nat.beq inf.size t'.size&&Nat.beq zz.cells.size t'.size&&(Nat.beq z 0||Nat.beq z t'.size))with
      |false=>simp [ii]at h
      |true=>
       simp only [ii,cond_true]at h
       cases h
       simp only [w4,Bool.or_eq_true]at ii
       obtain⟨⟨⟨⟨k1,k2⟩,k3⟩,k4⟩,k5⟩:=ii
       have k1:=q8 k1
       have k2:=q8 k2
       have k3:=q8 k3
       have k4:=q8 k4
       have hz:z=0∨z=t'.size:=k5.imp q8 q8
       subst k1;subst k2
       have hk:k≤ys.length:=by simpa using dq (decide (k≤ys.length)) (by simp)
       have n1:xs.length + (NK z k ys).length≤9223372036854775807:=by simpa using dq (decide (xs.length + (NK z k ys).length≤9223372036854775807)) (by simp)
       have n2:(xs.length + (NK z k ys).length) * inf.bytes≤140737488355328:=by simpa using dq (decide ((xs.length + (NK z k ys).length) * inf.bytes≤140737488355328)) (by simp)
       have hat:cl.argTypes= #[t1,t1]:=by rw [← w7 (xs:=cl.argTypes),hts]
       have sm:=(c.evC hx).1
       have Ip:=(c.evC hy).1
       simp only [Cell.conc]at sm Ip
       have zp:=c.hE _ _ he1
       obtain⟨⟨cs,h1,h2,h3⟩,jy,_⟩:=c.hp.he _ _ zp
       obtain⟨hh2,_,_⟩:=c.hp.he _ _ (c.hE _ _ he2)
       have OE:s.used nid=false:=jM nid (by simp)
       have fin: ∀ v' w' cs',(Builtin.append_ #[t1,t1] ty #[ρ id,HX (vwN z k (ρ jd))]).run P w= .ok v' w'→CC w' e' t'.size v' (xs++NK z k ys).length cs'→jY ρ.mem t' cs' (xs++NK z k ys)→Chg w w' (fun k=>k∈fB (ρ id))→(∀ b∈fB v',w.heap.size≤b∨b∈fB (ρ id))→
         Oper.wp P ⟨dst,.call cl,ty,pos,after,guard⟩ a w K Q:=by
        intro v' w' cs' hr pT qE hg hbl
        obtain⟨hX,hp⟩:=c.hp.rowTo zp OE hg pT qE hbl
        refine au (u:=v') (w':=w') ?_ (hC _ v' w' hX ?_ hp)
        ·simp [execOp,resolve,hb,invoke,builtin,Cr,sm,Ip,hat,hr]
        ·simp only [one,SV.conc,V1.conc,Cell.conc]
         rw [fy _ _ (sX pT)]
       rcases ajb hh2 c.hp.hf.dat hz hk with⟨hv,hn⟩ | ⟨b,off,cap,news,hv,qE,hcells⟩
       ·rw [YD hv]at fin
        rw [hn]at fin n1 n2
        rcases hv with hv | ⟨b,hv⟩
        ·have hr:=Fm (P:=P) (w:=w) t1 ty e' inf t'.size hT vr (ρ id) xs.length cs h1
         rw [← hv]at hr
         exact fin _ _ cs hr (by simpa using h1) (by simpa using h2) (Chg.refl _ _) fun b hb=> .inr hb
        ·obtain⟨v',w',hr,g1,g2,g3⟩:=uV (P:=P) t1 ty e' inf zz t'.size inf.bytes hT vr hzz k3 rfl k4 (uW t') (ρ id) xs.length cs h1 b 0 0 [] (by simp) (fun j u hj=>by simp at hj) (fun u hu=>by simp at hu) (xQ (by simpa using n1)) (by simpa using n2)
         rw [← hv]at hr
         exact fin _ _ _ hr (by simpa using g1) (by simpa using h2) g2 g3
       ·obtain⟨v',w',hr,g1,g2,g3⟩:=uV (P:=P) t1 ty e' inf zz t'.size inf.bytes hT vr hzz k3 rfl k4 (uW t') (ρ id) xs.length cs h1 ⟨b,off,none⟩ (NK z k ys).length cap news qE.1 hcells qE.cell_one (xQ n1) n2
        have hsl:HX (vwN z k (ρ jd))=vwN z k (ρ jd):=by rw [hv];rfl
        rw [hsl]at fin
        rw [← hv]at hr
        refine fin _ _ _ hr (by rw [w5];exact g1) (h2.append qE) g2 g3
     ·cases h
    ·cases h
   ·cases h
  ·cases h
 ·cases h
end
end Go.SX
namespace Go.SX
open Go.RowKit
def Xe(ks:List ByteArray)(x:ByteArray):Bool:=ks.any fun k=>decide (k=x)
def aex(ks:List ByteArray)(x:ByteArray):List ByteArray:=bif Xe ks x then ks else ks++ [x]
theorem acm{ks:List ByteArray}{x:ByteArray}:Xe ks x=true↔x∈ks:=by
 simp [Xe]
def afa(nid:Nat):Option Raw:=some ⟨one (.ref nid),[(nid,.mp [])],[nid],[]⟩
def ahV(P:Program)(T:TypeId):Bool:=
 match P.underlying T with
 |some (.map k e)=>match P.underlying k,P.info? e with
  |some .string,some inf=>match inf.zero with
   |some (.bool false)=>true
   |_=>false
  |_,_=>false
 |_=>false
def aiL(P:Program)(look:Nat→Option SS)(ent:Nat→Option Entry)(A:List (Nat×Bool))(T:TypeId)(m k:Operand):Option Raw:=
 match evC look A m,evC look A k with
 |some (.ref id),some (.val (.string x))=>match ent id with
  |some (.mp ks)=>bif ahV P T then some ⟨one (.val (.bool (Xe ks x))),[],[],[]⟩else none
  |_=>none
 |_,_=>none
def ajO(P:Program)(look:Nat→Option SS)(ent:Nat→Option Entry)(A:List (Nat×Bool))(T:TypeId)(m k v:Operand):Option Raw:=
 match evC look A m,evC look A k,evC look A v with
 |some (.ref id),some (.val (.string x)),some (.val (.bool true))=>match ent id with
  |some (.mp ks)=>bif ahV P T then some ⟨Yy,[(id,.mp (aex ks x))],[],[]⟩else none
  |_=>none
 |_,_,_=>none
section
variable{P:Program}{tbl:List (PF P)}{s:St}{look:Nat→Option SS}{ent:Nat→Option Entry}{A:List (Nat×Bool)}{nid:Nat}{o:Oper}{r:Raw}{B:Base}{ρ:Nm}{a:Act}{w:World}{K:Act→World→Prop}{Q:Exit→Act→World→Prop}
theorem aho{T:TypeId}(h:ahV P T=true): ∃ k e,P.underlying T=some (.map k e)∧P.underlying k=some .string∧ ∀ w,(zeroValue e).run P w= .ok (.bool false) w:=by
 unfold ahV at h
 split at h
 ·rename_i k e hT
  split at h
  ·rename_i inf hk hi
   split at h
   ·rename_i hz
    exact⟨k,e,hT,hk,fun w=>by simp [zeroValue,typeInfo,hi,hz]⟩
   ·cases h
  ·cases h
 ·cases h
def adW(es:Array MapEntry)(ks:List ByteArray):Prop:=(es.toList.map fun e=>(e.key,e.val))=ks.map fun k=>(Value.string k,Value.bool true)
theorem adj{es:Array MapEntry}{ks:List ByteArray}(h:adW es ks): ∀ x∈es.toList,(∃ k∈ks,x.key= .string k)∧x.val= .bool true:=by
 intro x hx
 have:(x.key,x.val)∈es.toList.map fun e=>(e.key,e.val):=List.mem_map_of_mem hx
 rw [h]at this
 obtain⟨k,hk,he⟩:=List.mem_map.1 this
 simp only [Prod.mk.injEq]at he
 exact⟨⟨k,hk,he.1.symm⟩,he.2.symm⟩
theorem ail{es:Array MapEntry}{ks:List ByteArray}(h:adW es ks){k:ByteArray}(hk:k∈ks): ∃ x∈es.toList,x.key= .string k:=by
 have:(Value.string k,Value.bool true)∈ks.map fun k=>(Value.string k,Value.bool true):=List.mem_map_of_mem hk
 rw [← h]at this
 obtain⟨x,hx,he⟩:=List.mem_map.1 this
 simp only [Prod.mk.injEq]at he
 exact⟨x,hx,he.1⟩
theorem agY{es:Array MapEntry}{ks:List ByteArray}(h:adW es ks)(x:ByteArray):
  (Xe ks x=false∧Instr.findNow .string (.string x) es.toList 0=some none)∨
  ∃ j e,Xe ks x=true∧Instr.findNow .string (.string x) es.toList 0=some (some (j,.bool true))∧es.toList[j]? =some e∧e.key= .string x∧e.val= .bool true:=by
 have hkey:MapKept.IsKey .string (.string x):=trivial
 rcases MapKept.findNow_spec hkey es.toList 0 (fun y hy=>by obtain⟨⟨k,_,hk⟩,_⟩:=adj h y hy;rw [hk];trivial)with⟨h1,h2⟩ | ⟨j,e,h1,h2,h3⟩
 ·refine .inl ⟨?_,h1⟩
  cases hm:Xe ks x with
  |false=>rfl
  |true=>
   obtain⟨y,hy,he⟩:=ail h (acm.1 hm)
   exact absurd he (h2 y hy)
 ·have Bp:=List.mem_of_getElem? h2
  obtain⟨⟨k,hk,hkk⟩,hv⟩:=adj h e Bp
  rw [h3]at hkk
  cases hkk
  exact .inr ⟨j,e,acm.2 hk,by rw [h1,hv,Nat.zero_add],h2,h3,hv⟩
theorem aiY{T k e:TypeId}{b clock:Nat}{es:Array MapEntry}{ks:List ByteArray}{x:ByteArray}(hT:P.underlying T=some (.map k e))(hk:P.underlying k=some .string)(hz: ∀ w,(zeroValue e).run P w= .ok (.bool false) w)
  (hb:w.heap[b]? =some (.map es clock)) (h:adW es ks):(Instr.lookup T (.map (some b)) (.string x) false).run P w= .ok (.bool (Xe ks x)) w:=by
 have hkey:MapKept.IsKey .string (.string x):=trivial
 rcases agY h x with⟨h1,h2⟩ | ⟨j,y,h1,h2,_⟩
 ·simp [Instr.lookup,run_underlying hT,MapKept.run_getObj_map hb,MapKept.run_checkKey hk hkey,MapKept.run_findKey hk h2,hz,h1,Result.andThen]
 ·simp [Instr.lookup,run_underlying hT,MapKept.run_getObj_map hb,MapKept.run_checkKey hk hkey,MapKept.run_findKey hk h2,h1,Result.andThen]
theorem ajS{T k e:TypeId}{b clock:Nat}{es:Array MapEntry}{ks:List ByteArray}{x:ByteArray}(hT:P.underlying T=some (.map k e))(hk:P.underlying k=some .string)
  (hb:w.heap[b]? =some (.map es clock)) (h:adW es ks):
  ∃ es' clock',(Instr.mapUpdate T (.map (some b)) (.string x) (.bool true)).run P w= .ok () { w with heap:=w.heap.setIfInBounds b (.map es' clock') } ∧adW es' (aex ks x):=by
 have hkey:MapKept.IsKey .string (.string x):=trivial
 rcases agY h x with⟨h1,h2⟩ | ⟨j,y,h1,h2,h3,h4,h5⟩
 ·refine⟨es.push ⟨.string x,.bool true,clock⟩,clock + 1,?_,?_⟩
  ·simp [Instr.mapUpdate,run_underlying hT,MapKept.run_getObj_map hb,MapKept.run_checkKey hk hkey,MapKept.run_findKey hk h2,MapKept.run_setObj_map _ hb,Result.andThen]
  ·have h:(es.toList.map fun e=>(e.key,e.val))=ks.map fun k=>(Value.string k,Value.bool true):=h
   simp only [adW,aex,h1,cond_false,Array.toList_push,List.map_append,h,w8,List.map_nil]
 ·have hj:es[j]? =some y:=by simpa using h3
  refine⟨es.modify j fun e=> { e with key:= .string x,val:= .bool true },clock,?_,?_⟩
  ·simp [Instr.mapUpdate,run_underlying hT,MapKept.run_getObj_map hb,MapKept.run_checkKey hk hkey,MapKept.run_findKey hk h2,hj,h4,MapKept.run_keyThatStays hkey,MapKept.run_setObj_map _ hb,Result.andThen]
  ·simp only [adW,aex,h1,cond_true]
   rw [← show (es.toList.map fun e=>(e.key,e.val))=ks.map fun k=>(Value.string k,Value.bool true) from h]
   apply List.ext_getElem?
   intro i
   simp only [List.getElem?_map,Array.getElem?_toList,Array.getElem?_modify]
   by_cases Yk:j=i
   ·subst Yk
    simp [hj,h4,h5]
   ·simp [Yk]
theorem Hp.mpNew(h:Hp B ρ ent s.used w)(hn:s.used nid=false):
  let ρ':=upd ρ nid (.map (some w.heap.size))
  Ext B s.used ρ ρ'∧Hp B ρ' (aZ ent [(nid,.mp [])]) (bk s.used [nid]) (w.alloc (.map #[] 0)):=by
 intro ρ'
 have Ff:=Ew hn ρ (.map (some w.heap.size))
 refine h.chg (Chg.alloc w _) Ff (fun _ _ h=>h) (fun _ hx=>hx.elim) (fun _ _ hb=> .inl hb) (fun id e he=> ?_) (fun id e b he hb=> ?_) (fun id id' e e' b he he' _ _=> ?_)
 ·obtain⟨rfl,rfl⟩:=look?_one he
  refine⟨⟨w.heap.size,#[],0,fy _ _ rfl,heap_alloc_new w _,rfl,?_,?_⟩,by simp [bk,memN],trivial⟩
  ·cases hm:B.mem w.heap.size with
   |none=>rfl
   |some o=>have:=(Array.getElem?_eq_some_iff.1 (h.hf.mem _ _ hm)).1;omega
  ·show ρ.mem w.heap.size=none
   cases hm:ρ.mem w.heap.size with
   |none=>rfl
   |some o=>have:=(Array.getElem?_eq_some_iff.1 (h.hf.dat _ _ hm)).1;omega
 ·obtain⟨rfl,rfl⟩:=look?_one he
  left
  rw [show (Entry.mp []).ob ρ' id=fB (ρ' id) from rfl,show ρ' id= .map (some w.heap.size) from fy _ _ rfl]at hb
  simp only [fB,j6]at hb
  omega
 ·exact(look?_one he).1.trans (look?_one he').1.symm
theorem Hp.mpSet{used:Nat→Bool}(h:Hp B ρ ent used w){id:Nat}{ks ks':List ByteArray}{w':World}(he:ent id=some (.mp ks))
  (hg:Chg w w' (fun k=>k∈fB (ρ id))) (hr: ∃ b es clock,ρ id= .map (some b)∧w'.heap[b]? =some (.map es clock)∧adW es ks'):Ext B used ρ ρ∧Hp B ρ (aZ ent [(id,.mp ks')]) used w':=by
 obtain⟨⟨b,es,cl,h1,h2,h3,h4,h5⟩,jy,_⟩:=h.he _ _ he
 have Gu: ∀ b∈fB (ρ id),Was ent ρ [(id,.mp ks')] b:=fun b hb=>⟨id,_,_,he,hb,look?_same _ _ _⟩
 rw [show used=bk used [] from rfl]
 refine h.chg hg (fun _ _=>rfl) (fun _ _ h=>h) (fun k hk=>Gu k hk) (fun _ _ hb=> .inl hb) (fun i x hl=> ?_) (fun i x b hl hb'=> ?_) (fun i i' x x' b hl hl' hb1 hb2=> ?_)
 ·obtain⟨rfl,rfl⟩:=look?_one hl
  obtain⟨b',es',cl',g1,g2,g3⟩:=hr
  rw [h1]at g1;cases g1
  exact⟨⟨b,es',cl',h1,g2,g3,h4,h5⟩,jy,trivial⟩
 ·obtain⟨rfl,rfl⟩:=look?_one hl
  exact .inr (Gu b hb')
 ·exact(look?_one hl).1.trans (look?_one hl').1.symm
theorem aci(c:Ctx B ρ s a w look ent A){T:TypeId}(ho:o.op= .makeMap T none)(h:afa nid=some r)(jM: ∀ i∈r.new,s.used i=false)(hC:lP B s ρ r o a K):o.wp P a w K Q:=by
 obtain⟨dst,op,ty,pos,after,guard⟩:=o
 simp only at ho;subst ho
 cases h
 have hn:=jM nid (by simp)
 obtain⟨hX,hp⟩:=c.hp.mpNew hn
 refine au (u:= .map (some w.heap.size)) (w':=w.alloc (.map #[] 0)) ?_ (hC _ _ _ hX ?_ hp)
 ·simp [execOp,Instr.makeMap,Result.andThen]
 ·simp only [one,SV.conc,V1.conc,Cell.conc];exact(fy ρ nid rfl).symm
theorem ae7(c:Ctx B ρ s a w look ent A){T:TypeId}{m k:Operand}(ho:o.op= .lookup T m k false)(h:aiL P look ent A T m k=some r)(hC:lP B s ρ r o a K):o.wp P a w K Q:=by
 obtain⟨dst,op,ty,pos,after,guard⟩:=o
 simp only at ho;subst ho
 unfold aiL at h
 split at h
 ·rename_i id x hm hk
  split at h
  ·rename_i ks he
   cases hs:ahV P T with
   |false=>simp [hs]at h
   |true=>
    simp only [hs,cond_true]at h
    cases h
    obtain⟨kt,et,h1,h2,h3⟩:=aho hs
    obtain⟨⟨b,es,cl,g1,g2,g3,_,_⟩,_,_⟩:=c.hp.he _ _ (c.hE _ _ he)
    have e1:=(c.evC hm).1
    have e2:=(c.evC hk).1
    simp only [Cell.conc]at e1 e2
    refine au (u:= .bool (Xe ks x)) (w':=w) ?_ (lP.same rfl hC c.hp)
    simp [execOp,e1,e2,g1,aiY h1 h2 h3 g2 g3]
  ·cases h
 ·cases h
theorem acA(c:Ctx B ρ s a w look ent A){T:TypeId}{m k v:Operand}(ho:o.op= .mapUpdate T m k v∨o.op= .insert T m k v)(h:ajO P look ent A T m k v=some r)(hC:lP B s ρ r o a K):o.wp P a w K Q:=by
 obtain⟨dst,op,ty,pos,after,guard⟩:=o
 simp only at ho
 unfold ajO at h
 split at h
 ·rename_i id x hm hk hv
  split at h
  ·rename_i ks he
   cases hs:ahV P T with
   |false=>simp [hs]at h
   |true=>
    simp only [hs,cond_true]at h
    cases h
    obtain⟨kt,et,h1,h2,h3⟩:=aho hs
    have zp:=c.hE _ _ he
    obtain⟨⟨b,es,cl,g1,g2,g3,_,_⟩,_,_⟩:=c.hp.he _ _ zp
    have e1:=(c.evC hm).1
    have e2:=(c.evC hk).1
    have e3:=(c.evC hv).1
    simp only [Cell.conc]at e1 e2 e3
    obtain⟨es',cl',hr,ht⟩:=ajS (x:=x) h1 h2 g2 g3
    have hset:=MapKept.heap_set (o':= .map es' cl') g2
    obtain⟨hX,hp⟩:=c.hp.mpSet (ks':=aex ks x) (w':= { w with heap:=w.heap.setIfInBounds b (.map es' cl') }) zp
     ⟨rfl,rfl,rfl,by simp,fun k _ hk=>hset.2 k fun e=>hk (by rw [g1,e];simp [fB])⟩ ⟨b,es',cl',g1,hset.1,ht⟩
    refine KZ (w':= { w with heap:=w.heap.setIfInBounds b (.map es' cl') }) ?_ (hC ρ _ _ hX (SV.conc_ofValue ρ undef).symm (by simpa [Qg] using hp))
    rcases ho with rfl | rfl <;> simp [execOp,e1,e2,e3,g1,hr]
  ·cases h
 ·cases h
end
end Go.SX
namespace Go.SX
open Go.RowKit
section
variable{P:Program}{tbl:List (PF P)}{s:St}{look:Nat→Option SS}{ent:Nat→Option Entry}{A:List (Nat×Bool)}{nid:Nat}{o:Oper}{r:Raw}{B:Base}{ρ:Nm}{a:Act}{w:World}{K:Act→World→Prop}{Q:Exit→Act→World→Prop}
theorem Xt: ∀ (n k:Nat),(aK n k).Nodup
 |n,0=>List.nodup_nil
 |n,k + 1=>List.nodup_cons.2 ⟨fun h=>by
   have:=(oW.1 (memN_mem.2 h)).1
   omega,Xt (n + 1) k⟩
theorem Vb(c:Ctx B ρ s a w look ent A){k:FuncId}{args:List SV}{L:List Nat}(BV: ∀ v∈args,v.inU s.used)(hr:(execOp a.eval o).run P w= .ok (.enter k (args.map (SV.conc ρ)).toArray) w)
  (h:aeB tbl ent nid k args L=some r) (jM: ∀ i∈r.new,s.used i=false) (dq: ∀ b∈r.nd,b=true) (hC:lP B s ρ r o a K):o.wp P a w K Q:=by
 unfold aeB at h
 split at h
 ·rename_i args' es0 ha hes
  split at h
  ·rename_i out kp hout
   simp only at h
   split at h
   ·rename_i v es' hv hes'
    cases hnd':Vz L with
    |false=>simp [hnd']at h
    |true=>
     simp only [hnd',cond_true]at h
     cases h
     have hn:=VA hnd'
     have hlend:=lend (B:=B) (w:=w) c.hE c.hp hn hes
     have hc:=ZU hout dq (memBig w s.ent ρ L) (subNm ρ L) w hlend
     have zo:args'.map (SV.conc (subNm ρ L))=args.map (SV.conc ρ):=
      Fj ha fun x hx y hy=>SV.ren_conc (U:=s.used) (fun i j _ hj=>mF (BA hj)) (BV x hx) hy
     rw [zo]at hc
     unfold Oper.wp;rw [hr]
     refine hc.mono fun e w' ⟨ρc,hx,he,hl,hU,hpl⟩=> ?_
     subst he
     have hl0:es0.length=L.length:=(Fi hes).1
     obtain⟨ρ',hX,hren,hp⟩:=alF (m:=out.new.length) c.hE c.hp hn hes jM (by rw [w5,hl,hl0]) hx hpl hes'
     refine hC ρ' _ w' hX (SV.ren_conc hren hU hv).symm ?_
     have Lg:=Vc hout dq
     have hLn:=hn
     have hMn:(L++aK nid out.new.length).Nodup:=by
      refine List.nodup_append.2 ⟨hn,Xt _ _,fun x hx y hy hxy=> ?_⟩
      subst hxy
      have h1:=jM x hy
      obtain⟨j,hj⟩:=List.mem_iff_getElem?.1 hx
      have hj2:j < es0.length:=by rw [hl0];exact(z6.1 hj).1
      obtain⟨i,e,q1,q2,_⟩:=NL c.hE hes (List.getElem?_eq_getElem hj2)
      rw [hj]at q1;cases q1
      have:=(c.hp.he _ _ q2).2.1
      rw [this]at h1;cases h1
     rw [afF c.hE hMn fun q i e h1 h2 h3=>by
      simp only [Nat.zero_add,w4]at h3
      have hq:q < L.length:=z8 h3.1
      have hqk:=Lg q (memN_mem.1 h3.2)
      have hi:L[q]? =some i:=by rw [List.getElem?_append_left hq]at h1;exact h1
      have hq0:q < es0.length:=by omega
      obtain⟨e1,he1,hr1⟩:=(Fi hes').2 q e h2
      rw [List.getElem?_append_left (by omega),hqk]at he1
      obtain⟨i2,q1,q2⟩:=(Fi hes).2 q e1 he1
      rw [hi]at q1;cases q1
      unfold afk at q2
      split at q2
      ·rename_i e0 he0
       have:e=e0:=Entry.ren_round (fun a b d h1 h2=>by
        have:=BA h1
        simp only [aaK]at h2
        rw [List.getElem?_append_left (z6.1 this).1,this]at h2
        exact(Option.some.inj h2).symm) q2 hr1
       rw [this];exact he0
      ·cases q2]
     exact hp
   ·cases h
  ·cases h
 ·cases h
theorem Tt{k:FuncId}{args:Array Value}(h:afc P k=true):(callFunc k args).run P w= .ok (.enter k args) w:=by
 unfold afc at h
 split at h
 ·rename_i fn hfn
  simp only [w4,Bool.not_eq_true']at h
  obtain⟨h1,h2⟩:=h
  unfold callFunc
  have h3: ¬ fn.name= "runtime.NumGoroutine" :=by simpa using h1
  have h4:fn.body≠none:=fun e=>by rw [e]at h2;cases h2
  simp [program,Sem.run_bind,Sem.run,hfn,h3,h4]
 ·cases h
theorem afT(caps:List Nat):(aeD caps).map (SV.conc ρ)=caps.map fun id=>Value.pointer (some ⟨Mv (ρ id),0,none⟩):=by
 simp only [aeD,List.map_map];rfl
theorem ahr(bs:List (Nat×Option Value)):(ah8 bs).conc ρ= .agg (bs.map (bcV ρ)).toArray:=by
 simp only [ah8,SV.conc,V1.conc,List.map_map]
 congr 2
 refine List.map_congr_left fun p _=> ?_
 obtain⟨id,o⟩:=p
 cases o <;> rfl
theorem abO{U:Nat→Bool}: ∀ {bs:List (Nat×Option Value)},(∀ id∈FD bs,U id=true)→(ah8 bs).inU U
 | [],_=>fun x hx=>by cases hx
 |(id,none)::r,h=>fun x hx=>by
  rcases List.mem_cons.1 hx with rfl | hx
  ·exact h id (List.mem_cons_self ..)
  ·exact abO (bs:=r) (fun i hi=>h i (List.mem_cons_of_mem _ hi)) x hx
 |(id,some v)::r,h=>fun x hx=>by
  rcases List.mem_cons.1 hx with rfl | hx
  ·trivial
  ·exact abO (bs:=r) (fun i hi=>h i hi) x hx
theorem aeC(c:Ctx B ρ s a w look ent A){cl:Call}{f:Operand}(ho:o.op= .call cl)(hf:cl.callee= .value f)(h:ah9 P tbl look ent A nid f cl.args.toList=some r)
  (jM: ∀ i∈r.new,s.used i=false) (dq: ∀ b∈r.nd,b=true) (hC:lP B s ρ r o a K):o.wp P a w K Q:=by
 obtain⟨dst,op,ty,pos,after,guard⟩:=o
 simp only at ho;subst ho
 unfold ah9 at h
 split at h
 ·rename_i k fi ca vs hk hvs
  split at h
  ·rename_i h1 h2
   have e1:fi= #[]:=by rw [← w7 (xs:=fi),h1]
   have e2:ca= #[]:=by rw [← w7 (xs:=ca),h2]
   subst e1;subst e2
   cases ii:afc P k with
   |false=>simp [ii]at h
   |true=>
    simp only [ii,cond_true]at h
    obtain⟨g1,g2⟩:=RS c hvs
    have hkv:=(c.evC hk).1
    simp only [Cell.conc]at hkv
    refine Vb c g2 ?_ h jM dq hC
    have Cr:cl.args.map a.eval=(vs.map (SV.conc ρ)).toArray:=by rw [← g1,← w7 (xs:=cl.args.map a.eval),Array.toList_map]
    simp [execOp,resolve,hf,Deferred.ofValue,hkv,invoke,Cr,Tt ii]
  ·cases h
 ·rename_i k caps vs hk hvs
  cases ii:afc P k with
  |false=>simp [ii]at h
  |true=>
   simp only [ii,cond_true]at h
   obtain⟨g1,g2⟩:=RS c hvs
   obtain⟨hkv,hku⟩:=c.evC hk
   simp only [Cell.conc]at hkv
   refine Vb c (fun v hv=> ?_) ?_ h jM dq hC
   ·rcases List.mem_append.1 hv with hv | hv
    ·exact g2 v hv
    ·simp only [aeD,List.mem_map]at hv
     obtain⟨id,jy,rfl⟩:=hv
     intro x hx;simp only [j6]at hx;subst hx;exact hku id jy
   ·have Cr:cl.args.map a.eval=(vs.map (SV.conc ρ)).toArray:=by rw [← g1,← w7 (xs:=cl.args.map a.eval),Array.toList_map]
    simp [execOp,resolve,hf,Deferred.ofValue,hkv,invoke,Cr,Tt ii,afT]
 ·rename_i k bs vs hk hvs
  cases ii:afc P k with
  |false=>simp [ii]at h
  |true=>
   simp only [ii,cond_true]at h
   obtain⟨g1,g2⟩:=RS c hvs
   obtain⟨hkv,hku⟩:=c.evC hk
   simp only [Cell.conc]at hkv
   refine Vb c (fun v hv=> ?_) ?_ h jM dq hC
   ·rcases List.mem_cons.1 hv with rfl | hv
    ·exact abO hku
    ·exact g2 v hv
   ·have Cr:cl.args.map a.eval=(vs.map (SV.conc ρ)).toArray:=by rw [← g1,← w7 (xs:=cl.args.map a.eval),Array.toList_map]
    simp [execOp,resolve,hf,Deferred.ofValue,hkv,invoke,Cr,Tt ii,ahr]
 ·cases h
end
def orE{α:Type}:Option α→Option α→Option α
 |some a,_=>some a
 |none,b=>b
theorem nN{α:Type}{x y:Option α}{r:α}(h:orE x y=some r):x=some r∨y=some r:=by
 cases x with
 |none=>exact .inr h
 |some a=>exact .inl h
def opV(P:Program)(tbl:List (PF P))(look:Nat→Option SS)(ent:Nat→Option Entry)(A:List (Nat×Bool))(nid:Nat)(o:Oper):Option Raw:=
 match o.op with
 | .move x=>orE (akM (PF.rawed tbl) look A x) (ahd P (PF.treed tbl) look A nid o.type x)
 | .assign x=>ahd P (PF.treed tbl) look A nid o.type x
 | .pick c x y=>aiU look A c x y
 | .alloc T=>afL P (PF.treed tbl) nid T
 | .box T x=>akj P (PF.treed tbl) look A nid T x
 | .load T x=>aiK P look ent A nid T x
 | .store T x y=>orE (aaG (PF.treed tbl) P look ent A nid T x y) (orE (Yx P look ent A nid T x y) (agI P look ent A nid T x y))
 | .fieldAddr T x f=>Yh P look A T x f
 | .field T x f=>orE (DX P look A o) (af4 P look A T x f)
 | .nilCheck x=>orE (aal look A x) (DX P look A o)
 | .indexAddr T x ix=>orE (Yl P look ent A T x ix) (ad2 P look A nid T x ix)
 | .index T x ix=>orE (agf P look A T x ix) (DX P look A o)
 | .slice T x lo hi mx=>orE (aaD P look A T x lo hi mx) <| orE (aiT (PF.parted tbl) P look ent A T x lo hi mx) <| orE (ai9 (PF.viewed tbl||PF.parted tbl) P look ent A T x lo hi mx) (orE (agF P look ent A nid (PF.marked tbl) T x lo hi mx) (ad3 P look A nid T x lo hi mx))
 | .makeFunc fn fi ca=>aah look A fn fi ca
 | .makeSlice T l c=>Ym P (PF.treed tbl) look A nid T l c
 | .buildSlice T n ps=>Va P (PF.treed tbl) look ent A nid T n ps
 | .build T ps=>orE (afS P (PF.treed tbl) look A nid T ps) (DX P look A o)
 | .binOp op T x y _=>orE (akm look A op x y) (orE (akk look A op x y) (orE (eqV P look A op T x y) (orE (af0 P look ent A op T x y) (DX P look A o))))
 | .extract x i=>match ev look A x with
  |some (.tup vs)=>vs[i]?.map fun v=>Raw.ofV (.one v)
  |_=>none
 | .call cl=>match cl.callee,cl.args.toList with
  | .builtin .len,[x]=>orE (akC P look ent A cl.argTypes x) (DX P look A o)
  | .builtin .append,[x,y]=>orE (adP P look ent A nid cl.argTypes x y) (orE (adO P look ent A nid cl.argTypes x y) (orE (abK P look A nid cl.argTypes x y) (abI P look ent A nid cl.argTypes x y)))
  | .builtin .clear,[x]=>orE (afW P look ent A cl.argTypes x) (DX P look A o)
  | .builtin .copy,[x,y]=>aic P look ent A cl.argTypes x y
  | .builtin _,_=>DX P look A o
  | .value f,args=>orE (ah9 P tbl look ent A nid f args) (akt P look A f args)
  |_,_=>none
 | .select _ _=>none
 | .convert S D x=>orE (akW P look ent A S D x) (DX P look A o)
 | .makeMap _ none=>afa nid
 | .lookup T m k false=>orE (aiL P look ent A T m k) (DX P look A o)
 | .mapUpdate T m k v=>orE (ajO P look ent A T m k v) (DX P look A o)
 | .insert T m k v=>orE (ajO P look ent A T m k v) (DX P look A o)
 |_=>DX P look A o
section
variable{P:Program}{tbl:List (PF P)}{s:St}{look:Nat→Option SS}{ent:Nat→Option Entry}{A:List (Nat×Bool)}{nid:Nat}{o:Oper}{r:Raw}{B:Base}{ρ:Nm}{a:Act}{w:World}{K:Act→World→Prop}{Q:Exit→Act→World→Prop}
theorem adz(c:Ctx B ρ s a w look ent A)(h:opV P tbl look ent A nid o=some r)(jM: ∀ i∈r.new,s.used i=false)(dq: ∀ b∈r.nd,b=true)(hC:lP B s ρ r o a K):o.wp P a w K Q:=by
 unfold opV at h
 cases HG:o.op <;> rw [HG]at h <;> (try simp only at h)
 case move x=>
  rcases nN h with h | h
  ·exact ags c HG h hC
  ·exact aaY c (.inl HG) h jM hC
 case assign x=>exact aaY c (.inr HG) h jM hC
 case pick cc x y=>exact afh c HG h hC
 case alloc T=>exact adN c HG h jM hC
 case box T x=>exact afR c HG h jM hC
 case load T x=>exact ae6 c HG h jM dq hC
 case store T x y=>
  rcases nN h with h | h
  ·exact abo c HG h jM hC
  ·rcases nN h with h | h
   ·exact aaH c HG h jM dq hC
   ·exact aem c HG h jM dq hC
 case fieldAddr T x f=>exact aad c HG h hC
 case field T x f=>
  rcases nN h with h | h
  ·exact lT c (fun _ _=>by simp [HG]) h hC
  ·exact adZ c HG h hC
 case nilCheck x=>
  rcases nN h with h | h
  ·exact abf c HG h hC
  ·exact lT c (fun _ _=>by simp [HG]) h hC
 case indexAddr T x ix=>
  rcases nN h with h | h
  ·exact aag c HG h dq hC
  ·exact acP c HG h jM dq hC
 case index T x ix=>
  rcases nN h with h | h
  ·exact ad8 c HG h dq hC
  ·exact lT c (fun _ _=>by simp [HG]) h hC
 case slice T x lo hi mx=>
  rcases nN h with h | h
  ·exact abn c HG h dq hC
  rcases nN h with h | h
  ·exact afg c HG h dq hC
  rcases nN h with h | h
  ·exact afC c HG h dq hC
  rcases nN h with h | h
  ·exact aek c HG h jM dq hC
  ·exact acQ c HG h jM dq hC
 case makeFunc fn fi ca=>exact abb c HG h hC
 case makeSlice T l m=>exact aai c HG h jM dq hC
 case buildSlice T n ps=>exact YS c HG h jM hC
 case build T ps=>
  rcases nN h with h | h
  ·exact adR c HG h jM hC
  ·exact lT c (fun _ _=>by simp [HG]) h hC
 case binOp bop T x y T'=>
  rcases nN h with h | h
  ·exact afX c HG h dq hC
  ·rcases nN h with h | h
   ·exact afU c HG h dq hC
   rcases nN h with h | h
   ·exact ahw c HG h hC
   rcases nN h with h | h
   ·exact adY c HG h dq hC
   ·exact lT c (fun _ _=>by simp [HG]) h hC
 case extract x i=>
  obtain⟨dst,op,ty,pos,after,guard⟩:=o
  simp only at HG;subst HG
  split at h
  ·rename_i vs hx
   cases hv:vs[i]? with
   |none=>simp [hv]at h
   |some v=>
    simp [hv]at h;subst h
    refine au (u:=v.conc ρ) (w':=w) ?_ (lP.same (v:= .one v) rfl hC c.hp)
    have:=(c.ev hx).1
    simp [execOp,this,SV.conc,Instr.extract,hv]
  ·cases h
 case call cl=>
  split at h
  ·rename_i x Rt zo
   rcases nN h with h | h
   ·exact agj c HG Rt zo h hC
   ·exact lT c (fun _ _=>by simp [HG]) h hC
  ·rename_i x y Rt zo
   rcases nN h with h | h
   ·exact acM c HG Rt zo h jM dq hC
   rcases nN h with h | h
   ·exact acL c HG Rt zo h jM dq hC
   rcases nN h with h | h
   ·exact abL c HG Rt zo h jM dq hC
   ·exact abJ c HG Rt zo h jM dq hC
  ·rename_i x Rt zo
   rcases nN h with h | h
   ·exact adT c HG Rt zo h hC
   ·exact lT c (fun _ _=>by simp [HG]) h hC
  ·rename_i x y Rt zo
   exact aeL c HG Rt zo h dq hC
  ·exact lT c (fun _ _=>by simp [HG]) h hC
  ·rename_i f Rt
   rcases nN h with h | h
   ·exact aeC c HG Rt h jM dq hC
   ·exact af3 c HG Rt h hC
  ·cases h
 case select=>cases h
 case convert S D x=>
  rcases nN h with h | h
  ·exact agJ c HG h hC
  ·exact lT c (fun _ _=>by simp [HG]) h hC
 case makeMap T r=>
  cases r with
  |none=>exact aci c HG h jM hC
  |some r=>exact lT c (fun _ _=>by simp [HG]) h hC
 case lookup T m k ok=>
  cases ok with
  |false=>
   rcases nN h with h | h
   ·exact ae7 c HG h hC
   ·exact lT c (fun _ _=>by simp [HG]) h hC
  |true=>exact lT c (fun _ _=>by simp [HG]) h hC
 case mapUpdate T m k v=>
  rcases nN h with h | h
  ·exact acA c (.inl HG) h hC
  ·exact lT c (fun _ _=>by simp [HG]) h hC
 case insert T m k v=>
  rcases nN h with h | h
  ·exact acA c (.inr HG) h hC
  ·exact lT c (fun _ _=>by simp [HG]) h hC
 all_goals exact lT c (fun _ _=>by simp [HG]) h hC
end
end Go.SX
