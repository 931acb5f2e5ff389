import Derived.Test.YthehiagbdgollaaGreatDoorTXB
set_option linter.unusedSimpArgs false
set_option linter.unusedVariables false
namespace Go.SX
open Go.RowKit
theorem aeJ{ρ ρ':Nm}(h: ∀ i,ρ' i=ρ i)(args:List SV):args.map (SV.conc ρ)=args.map (SV.conc ρ'):=by
 refine List.map_congr_left fun v _=> ?_
 exact(SV.conc_congr (U:=fun _=>true) (fun i _=>h i) (by
  have hc: ∀ c:Cell,c.inU fun _=>true:=fun c=>by cases c <;> simp [Cell.inU]
  cases v with
  |one v=>exact fun c _=>hc c
  |tup vs=>exact fun v _ c _=>hc c)).symm
def PF.fzB{P:Program}(q:TypeId→Bool)(p:PF P):PF P where
 k:=p.k
 F:=fun args es=>bif es.any (fun e=>e.isOwn&&e.lentQ q)then p.F args (es.map (Entry.fzQ q))else none
 ok:=by
  intro args es o h dq mem ρ w hp
  cases ha:es.any (fun e=>e.isOwn&&e.lentQ q)with
  |false=>rw [ha]at h;cases h
  |true=>
   rw [ha]at h
   obtain⟨ρ1,n1,x1,h1,_⟩:=hp.fzQ q
   rw [aeJ (ρ:=ρ) (ρ':=ρ1) (fun i=>by simp only [Nm.of,n1])]
   refine(p.ok args (es.map (Entry.fzQ q)) o h dq mem ρ1 w h1).mono fun e w' ⟨ρ',hx,he,hl,hr,hh⟩=> ?_
   rw [List.length_map]at hx hl
   exact⟨ρ',x1.trans hx fun _ h=>h,he,hl,hr,hh⟩
abbrev PF.fzBut{P:Program}(k:TypeId)(p:PF P):PF P:=PF.fzB (fun e=> !Nat.beq e k) p
def PF.frAt{P:Program}(k:Nat)(p:PF P):PF P where
 k:=p.k
 F:=fun args es=>match es[k]? with
  |some (.row true e t xs)=>p.F args (es.set k (.row false e t xs))
  |_=>none
 ok:=by
  intro args es o h dq mem ρ w hp
  split at h
  ·rename_i e t xs he
   obtain⟨ρ1,n1,f1,x1,h1,_⟩:=Hp.freezeA hp [k]
   have hk:k < es.length:=(List.getElem?_eq_some_iff.1 he).1
   have hE:HpL w mem (es.set k (.row false e t xs)) ρ1 w:=by
    unfold HpL
    rw [show (fun i=>(es.set k (.row false e t xs))[i]?)=aZ (fun i=>es[i]?) (FF (fun i=>es[i]?) [k]) from funext fun i=>by
     simp only [FF,he,aZ,look?,List.getElem?_set]
     cases hb:Nat.beq k i with
     |true=>have:=Nat.eq_of_beq_eq_true hb;subst this;simp [hk]
     |false=>
      have:k≠i:=fun e=>by subst e;rw [Nat.beq_refl]at hb;cases hb
      simp [this]]
    rw [show (fun i=>Nat.blt i (es.set k (.row false e t xs)).length)=fun i=>Nat.blt i es.length from by rw [List.length_set]]
    exact h1
   rw [aeJ (ρ:=ρ) (ρ':=ρ1) (fun i=>by simp only [Nm.of,n1])]
   refine(p.ok args _ o h dq mem ρ1 w hE).mono fun e w' ⟨ρ',hx,he,hl,hr,hh⟩=> ?_
   rw [List.length_set]at hx hl
   exact⟨ρ',x1.trans hx fun _ h=>h,he,hl,hr,hh⟩
  ·cases h
def SV.nilTo(n:Nat):SV→SV
 | .one ⟨f,[.val (.slice none 0 0)]⟩=> .one ⟨f,[.ref n]⟩
 |v=>v
theorem SV.nilTo_conc{ρ ρ':Nm}{n:Nat}{v:SV}(h: ∀ i,Nat.blt i n=true→ρ' i=ρ i)(hv:v.inUb (fun i=>Nat.blt i n)=true)(hn:ρ' n= .slice none 0 0):(v.nilTo n).conc ρ'=v.conc ρ:=by
 unfold SV.nilTo
 split
 ·rename_i f
  cases f <;> simp [SV.conc,V1.conc,Cell.conc,hn]
 ·exact SV.conc_congr h (SV.inUb_sound hv)
def PF.nilD{P:Program}(e:TypeId)(t:CTy)(p:PF P):PF P where
 k:=p.k
 F:=fun args es=>bif args.all (SV.inUb fun i=>Nat.blt i es.length)then
   match p.F (args.map (SV.nilTo es.length)) (es++ [.row false e t []])with
   |some o=>some ⟨o.res,o.es.take es.length,o.es.drop es.length++o.new,o.nd⟩
   |none=>none
  else none
 ok:=by
  intro args es o h dq mem ρ w hp
  cases ha:args.all (SV.inUb fun i=>Nat.blt i es.length)with
  |false=>simp only [ha,cond_false]at h;cases h
  |true=>
   simp only [ha,cond_true]at h
   split at h
   ·rename_i o1 ho1
    cases h
    have OE:Nat.blt es.length es.length=false:=by
     cases hb:Nat.blt es.length es.length with
     |false=>rfl
     |true=>rw [Nat.blt_eq]at hb;omega
    have Ff:=Ew (used:=fun i=>Nat.blt i es.length) OE ρ (.slice none 0 0)
    have hsame:(upd ρ es.length (.slice none 0 0)) es.length= .slice none 0 0:=fy _ _ rfl
    obtain⟨hX,h1⟩:=Hp.names hp (ρ':=upd ρ es.length (.slice none 0 0)) (es:= [(es.length,.row false e t [])]) (new:= [es.length]) Ff rfl (fun i x hl=>by
     obtain⟨rfl,rfl⟩:=look?_one hl
     refine⟨?_,by simp [bk,memN],trivial,rfl⟩
     simp only [Entry.holds]
     rw [hsame]
     exact .inl ⟨.inl rfl,rfl⟩)
    have hE:HpL w mem (es++ [.row false e t []]) (upd ρ es.length (.slice none 0 0)) w:=by
     unfold HpL
     rw [show (fun i=>(es++ [Entry.row false e t []])[i]?)=aZ (fun i=>es[i]?) [(es.length,.row false e t [])] from funext fun i=>by
      simp only [aZ,look?]
      cases hb:Nat.beq es.length i with
      |true=>have:=Nat.eq_of_beq_eq_true hb;subst this;simp
      |false=>
       have Oc:es.length≠i:=fun e=>by subst e;rw [Nat.beq_refl]at hb;cases hb
       simp only [cond_false]
       rcases Nat.lt_or_ge i es.length with hi | hi
       ·rw [List.getElem?_append_left hi]
       ·rw [List.getElem?_append_right hi,List.getElem?_eq_none hi,List.getElem?_eq_none (by simp;omega)]]
     rw [show (fun i=>Nat.blt i (es++ [Entry.row false e t []]).length)=bk (fun i=>Nat.blt i es.length) [es.length] from funext fun i=>by
      rw [Bool.eq_iff_iff]
      simp only [bk,memN,List.length_append,List.length_singleton,Nat.blt_eq,Bool.or_eq_true,Nat.beq_eq]
      simp
      omega]
     exact h1
    have hcv:(args.map (SV.nilTo es.length)).map (SV.conc (upd ρ es.length (.slice none 0 0)))=args.map (SV.conc ρ):=by
     rw [List.map_map]
     exact List.map_congr_left fun v hv=>SV.nilTo_conc Ff (List.all_eq_true.1 ha v hv) hsame
    have hk:=p.ok _ _ o1 ho1 dq mem _ w hE
    rw [hcv]at hk
    refine hk.mono fun x w' ⟨ρ',hx,he,hl,hr,hh⟩=> ?_
    have hl':o1.es.length=es.length + 1:=by rw [hl];simp
    have Lq:o1.es.take es.length++(o1.es.drop es.length++o1.new)=o1.es++o1.new:=by rw [← List.append_assoc,List.take_append_drop]
    refine⟨ρ',hX.trans hx fun i hi=> ?_,he,?_,?_,?_⟩
    ·rw [Nat.blt_eq]at hi ⊢
     simp;omega
    ·simp [hl']
    ·rw [Lq];exact hr
    ·rw [Lq];exact hh
   ·cases h
def PF.or{P:Program}(p q:PF P)(hk:q.k=p.k)(F:List SV→List Entry→Option Out)
  (h: ∀ args es o,F args es=some o→(∀ b∈o.nd,b=true)→
   (∃ o',p.F args es=some o'∧(∀ b∈o'.nd,b=true)∧o'.res=o.res∧o'.es=o.es∧o'.new=o.new)∨
   (∃ o',q.F args es=some o'∧(∀ b∈o'.nd,b=true)∧o'.res=o.res∧o'.es=o.es∧o'.new=o.new)):PF P where
 k:=p.k
 F:=F
 ok:=by
  intro args es o ho dq mem ρ w hp
  rcases h args es o ho dq with⟨o',h1,h2,h3,h4,h5⟩ | ⟨o',h1,h2,h3,h4,h5⟩
  ·rw [← h3,← h4,← h5]
   exact p.ok args es o' h1 h2 mem ρ w hp
  ·rw [← h3,← h4,← h5,← hk]
   exact q.ok args es o' h1 h2 mem ρ w hp
end Go.SX
