/- Part 38 of the proof: LawT, Tab, Tail. -/
import Derived.Test.YtidlffepdcldkaaGreatDoorBa16
import Derived.Test.YtidlffepdcldkaaGreatDoorBa02
import Derived.Test.YtidlffepdcldkaaGreatDoorBa37
import Derived.StillTail
import Derived.Deep.Quiet
namespace Go.Proofs.YtidlffepdcldkaaGreatDoor
set_option linter.unusedSimpArgs false
set_option linter.unusedVariables false
section
def updT (t:Nat→Option Job) (k:Nat) (o:Option Job):Nat→Option Job:=fun i=>if i=k then o else t i
def tabT:(Nat→Option Job)→List Job→Nat→Option Job
 | t,[]=>t
 | t,j ::l=>tabT (updT t j.id.toNat (some j)) l
def rowsT (t:Nat→Option Job):Nat→List Job
 | 0=>[]
 | n+1=>rowsT t n ++(t n).toList
theorem updT_same (t:Nat→Option Job) (k:Nat) (o:Option Job):updT t k o k=o:=by simp [updT]
theorem updT_other (t:Nat→Option Job) {k i:Nat} (o:Option Job) (h:i≠k):updT t k o i=t i:=by simp [updT,h]
theorem tabT_snoc (l:List Job) (j:Job):∀ t,tabT t (l ++[j])=updT (tabT t l) j.id.toNat (some j):=by
 induction l with
 | nil=>intro t;rfl
 | cons y l ih=>intro t;exact ih _
theorem tabT_at {l:List Job} (h0:∀ x∈l,0≤x.id) (hp:l.Pairwise (fun a c=>a.id<c.id)):∀ (t:Nat→Option Job) (i:Nat) (j:Job),tabT t l i=some j↔(j∈l∧j.id=i)∨((∀ y∈l,y.id≠i)∧t i=some j):=by
 induction l with
 | nil=>intro t i j;simp [tabT]
 | cons y l ih =>
   intro t i j
   obtain ⟨h1,h2⟩:=List.pairwise_cons.1 hp
   have hy:0≤y.id:=h0 y (by simp)
   show tabT (updT t y.id.toNat (some y)) l i=some j↔_
   rw [ih (fun x hx=>h0 x (by simp [hx])) h2]
   by_cases hi:i=y.id.toNat
   · have hiy:y.id=i:=by omega
     subst hi
     rw [updT_same]
     constructor
     · rintro (⟨h3,h4⟩ | ⟨h3,h4⟩)
       · left;exact ⟨by simp [h3],h4⟩
       · left;cases h4;exact ⟨by simp,hiy⟩
     · rintro (⟨h3,h4⟩ | ⟨h3,h4⟩)
       · rcases List.mem_cons.1 h3 with rfl | h3
         · right;exact ⟨fun z hz=>by have:=h1 z hz;omega,rfl⟩
         · left;exact ⟨h3,h4⟩
       · exact absurd hiy (h3 y (by simp))
   · have hiy:y.id≠i:=by omega
     rw [updT_other _ _ hi]
     constructor
     · rintro (⟨h3,h4⟩ | ⟨h3,h4⟩)
       · left;exact ⟨by simp [h3],h4⟩
       · right;refine ⟨fun z hz=>?_,h4⟩
         rcases List.mem_cons.1 hz with rfl | hz
         · exact hiy
         · exact h3 z hz
     · rintro (⟨h3,h4⟩ | ⟨h3,h4⟩)
       · rcases List.mem_cons.1 h3 with rfl | h3
         · exact absurd h4 hiy
         · left;exact ⟨h3,h4⟩
       · right;exact ⟨fun z hz=>h3 z (by simp [hz]),h4⟩
theorem mem_rowsT (t:Nat→Option Job) (j:Job):∀ n,j∈rowsT t n↔∃ i,i<n∧t i=some j:=by
 intro n
 induction n with
 | zero=>simp [rowsT]
 | succ n ih =>
   simp only [rowsT,List.mem_append,ih,Option.mem_toList]
   constructor
   · rintro (⟨i,h1,h2⟩ | h)
     · exact ⟨i,by omega,h2⟩
     · exact ⟨n,by omega,h⟩
   · rintro ⟨i,h1,h2⟩
     by_cases hi:i=n
     · right;rw [← hi];exact h2
     · left;exact ⟨i,by omega,h2⟩
theorem rowsT_rise (t:Nat→Option Job) (h:∀ (i:Nat) j,t i=some j→j.id=i):∀ n,(rowsT t n).Pairwise (fun a c=>a.id<c.id):=by
 intro n
 induction n with
 | zero=>simp [rowsT]
 | succ n ih =>
   simp only [rowsT]
   rw [List.pairwise_append]
   refine ⟨ih,?_,?_⟩
   · cases t n <;> simp
   · intro x hx y hy
     obtain ⟨i,hi,hx'⟩:=(mem_rowsT t x n).1 hx
     have hy':t n=some y:=by simpa using hy
     have:=h _ _ hx';have:=h _ _ hy';omega
theorem rise_ext:∀ {l m:List Job},l.Pairwise (fun a c=>a.id<c.id)→m.Pairwise (fun a c=>a.id<c.id)→(∀ x,x∈l↔x∈m)→l=m
 | [],[],_,_,_=>rfl
 | [],y ::m,_,_,h=>by have:=(h y).2 (by simp);simp at this
 | x ::l,[],_,_,h=>by have:=(h x).1 (by simp);simp at this
 | x ::l,y ::m,hl,hm,h=>by
   obtain ⟨h1,h2⟩:=List.pairwise_cons.1 hl
   obtain ⟨h3,h4⟩:=List.pairwise_cons.1 hm
   have exy:x=y:=by
    rcases List.mem_cons.1 ((h x).1 (by simp)) with e | e
    · exact e
    · rcases List.mem_cons.1 ((h y).2 (by simp)) with e' | e'
      · exact e'.symm
      · have:=h3 _ e;have:=h1 _ e';omega
   subst exy
   rw [rise_ext h2 h4 fun z=>?_]
   constructor
   · intro hz
     rcases List.mem_cons.1 ((h z).1 (by simp [hz])) with rfl | e
     · have:=h1 _ hz;omega
     · exact e
   · intro hz
     rcases List.mem_cons.1 ((h z).2 (by simp [hz])) with rfl | e
     · have:=h3 _ hz;omega
     · exact e
theorem rowsT_eq {t:Nat→Option Job} {l:List Job} (hp:l.Pairwise (fun a c=>a.id<c.id)) (hb:∀ x∈l,¬ badJ x) (h:∀ (i:Nat) j,t i=some j↔j∈l∧j.id=i):rowsT t 6=l:=by
 refine rise_ext (rowsT_rise t (fun i j hj=>((h i j).1 hj).2) 6) hp fun x=>?_
 rw [mem_rowsT]
 constructor
 · rintro ⟨i,_,hx⟩;exact ((h i x).1 hx).1
 · intro hx
   have:=hb x hx;unfold badJ at this
   exact ⟨x.id.toNat,by omega,(h _ _).2 ⟨hx,by omega⟩⟩
def stepT (b:Book) (x:Entry):Book :=
 let t:=tabT (fun _=>none) b.jobs
 if x.kind=1∧t x.job.toNat=none then ⟨rowsT (updT t x.job.toNat (some ⟨x.job,x.every,x.time⟩)) 6,b.rung⟩
 else if x.kind=2 then ⟨rowsT (updT t x.job.toNat none) 6,b.rung⟩
 else match t x.job.toNat with
  | some j=>if x.kind=3∧j.next=x.time∧b.rung.length<60 then ⟨rowsT (updT t x.job.toNat (some ⟨x.job,j.every,x.time+j.every⟩)) 6,b.rung ++[⟨x.job,x.time,x.client⟩]⟩ else ⟨rowsT t 6,b.rung⟩
  | none=>⟨rowsT t 6,b.rung⟩
theorem checkE_job {e:Entry} (h:checkE e=0):0≤e.job∧e.job<6:=by
 unfold checkE at h
 (repeat' split at h) <;> omega
theorem Book.eq_of {a b:Book} (h1:a.jobs=b.jobs) (h2:a.rung=b.rung):a=b:=by cases a;cases b;simp_all
theorem stepT_eq {b:Book} {x:Entry} (hb:GoodB b) (hx:checkE x=0):stepT b x=stepB b x:=by
 obtain ⟨hj0,hj6⟩:=checkE_job hx
 have hgs:=stepB_good hb hx
 have hT:∀ (i:Nat) j,tabT (fun _=>none) b.jobs i=some j↔j∈b.jobs∧j.id=i:=by
  intro i j
  rw [tabT_at (fun y hy=>by have:=hb.ok y hy;unfold badJ at this;omega) hb.ord]
  simp
 have hTk:∀ j,tabT (fun _=>none) b.jobs x.job.toNat=some j↔j∈b.jobs∧j.id=x.job:=by
  intro j
  rw [hT]
  constructor <;> rintro ⟨h1,h2⟩ <;> exact ⟨h1,by omega⟩
 have hrows:rowsT (tabT (fun _=>none) b.jobs) 6=b.jobs:=rowsT_eq hb.ord hb.ok hT
 -- the entry's job
 have hnone:tabT (fun _=>none) b.jobs x.job.toNat=none↔¬ 0≤findB b x.job:=by
  constructor
  · intro h h1
    obtain ⟨i,y,_,h3,h4⟩:=findB_pos h1
    have:=(hTk y).2 ⟨List.mem_of_getElem? h3,h4⟩
    rw [h] at this;cases this
  · intro h
    have h1:=findB_neg h
    cases ht:tabT (fun _=>none) b.jobs x.job.toNat with
    | none=>rfl
    | some j=>have h2:=(hTk j).1 ht;exact absurd h2.2 (h1 j h2.1)
 have huniq:∀ y∈b.jobs,∀ z∈b.jobs,y.id=z.id→y=z:=by
  intro y hy z hz e
  obtain ⟨i,hi,rfl⟩:=List.getElem_of_mem hy
  obtain ⟨k,hk,rfl⟩:=List.getElem_of_mem hz
  have hik:i=k:=by
   rcases Nat.lt_trichotomy i k with h | h | h
   · have:=List.pairwise_iff_getElem.1 hb.ord i k hi hk h;omega
   · exact h
   · have:=List.pairwise_iff_getElem.1 hb.ord k i hk hi h;omega
  subst hik;rfl
 have hupd : ∀ (o : Option Job) (l : List Job), l.Pairwise (fun a c => a.id < c.id) → (∀ y ∈ l, ¬ badJ y) → (∀ y, y ∈ l ↔ (y ∈ b.jobs ∧ y.id ≠ x.job) ∨ o = some y) → (∀ y, o = some y → y.id = x.job) →
     rowsT (updT (tabT (fun _=>none) b.jobs) x.job.toNat o) 6=l:=by
  intro o l hp hg hm ho
  refine rowsT_eq hp hg fun i j=>?_
  rw [hm]
  by_cases hi:i=x.job.toNat
  · subst hi
    rw [updT_same]
    constructor
    · intro h;exact ⟨Or.inr h,by rw [ho j h];omega⟩
    · rintro ⟨h1 | h1,h2⟩
      · omega
      · exact h1
  · rw [updT_other _ _ hi,hT]
    constructor
    · rintro ⟨h1,h2⟩;exact ⟨Or.inl ⟨h1,by omega⟩,h2⟩
    · rintro ⟨h1 | h1,h2⟩
      · exact ⟨h1.1,h2⟩
      · have:=ho j h1;omega
 unfold stepT
 unfold stepB at hgs ⊢
 dsimp only
 by_cases h1:x.kind=1
 · rw [if_pos h1] at hgs ⊢
   by_cases h2:tabT (fun _=>none) b.jobs x.job.toNat=none
   · rw [if_pos ⟨h1,h2⟩,if_neg (hnone.1 h2)]
     rw [if_neg (hnone.1 h2)] at hgs
     refine Book.eq_of ?_ rfl
     refine hupd _ _ hgs.ord hgs.ok (fun y=>?_) (fun y h=>by cases h;rfl)
     have hsp:y∈b.jobs↔y∈b.jobs.take (posJ b.jobs x.job)∨y∈b.jobs.drop (posJ b.jobs x.job):=by
      rw [← List.mem_append,List.take_append_drop]
     have hn:=findB_neg (hnone.1 h2)
     simp only [List.mem_append,List.mem_singleton,Option.some.injEq]
     constructor
     · rintro ((h | h) | h)
       · have:=hsp.2 (Or.inl h);exact Or.inl ⟨this,hn y this⟩
       · exact Or.inr h.symm
       · have:=hsp.2 (Or.inr h);exact Or.inl ⟨this,hn y this⟩
     · rintro (⟨h,_⟩ | h)
       · rcases hsp.1 h with h | h
         · exact Or.inl (Or.inl h)
         · exact Or.inr h
       · exact Or.inl (Or.inr h.symm)
   · rw [if_neg (fun h=>h2 h.2),if_neg (by omega),if_pos (Decidable.byContradiction fun h=>h2 (hnone.2 h))]
     cases ht:tabT (fun _=>none) b.jobs x.job.toNat with
     | none=>exact absurd ht h2
     | some j=>dsimp only;rw [if_neg (by omega)];exact Book.eq_of hrows rfl
 · rw [if_neg h1] at hgs
   rw [if_neg (fun h=>h1 h.1),if_neg h1]
   by_cases h2:x.kind=2
   · rw [if_pos h2] at hgs ⊢
     rw [if_pos h2]
     by_cases h3:0≤findB b x.job
     · rw [if_pos h3] at hgs ⊢
       refine Book.eq_of ?_ rfl
       refine hupd _ _ hgs.ord hgs.ok (fun y=>?_) (fun y h=>by cases h)
       obtain ⟨i,z,hi,hz,hzx⟩:=findB_pos h3
       rw [hi]
       simp only [Int.toNat_natCast,reduceCtorEq,or_false]
       obtain ⟨hil,hz'⟩:=List.getElem?_eq_some_iff.1 hz
       have hsp:b.jobs=b.jobs.take i ++z ::b.jobs.drop (i+1):=by
        rw [← hz',List.getElem_cons_drop,List.take_append_drop]
       have hord:=hb.ord
       rw [hsp,List.pairwise_append,List.pairwise_cons] at hord
       constructor
       · intro h
         rcases List.mem_append.1 h with h | h
         · have:=hord.2.2 y h z (by simp)
           exact ⟨List.mem_of_mem_take h,by omega⟩
         · have:=hord.2.1.1 y h
           exact ⟨List.mem_of_mem_drop h,by omega⟩
       · rintro ⟨h,hne⟩
         rw [hsp] at h
         rcases List.mem_append.1 h with h | h
         · exact List.mem_append.2 (Or.inl h)
         · rcases List.mem_cons.1 h with rfl | h
           · exact absurd hzx hne
           · exact List.mem_append.2 (Or.inr h)
     · rw [if_neg h3] at hgs ⊢
       refine Book.eq_of ?_ rfl
       refine hupd _ _ hb.ord hb.ok (fun y=>?_) (fun y h=>by cases h)
       have hn:=findB_neg h3
       simp only [reduceCtorEq,or_false]
       exact ⟨fun h=>⟨h,hn y h⟩,fun h=>h.1⟩
   · rw [if_neg h2] at hgs ⊢
     rw [if_neg h2]
     by_cases h3:x.kind=3
     · rw [if_pos h3] at hgs ⊢
       cases ht:tabT (fun _=>none) b.jobs x.job.toNat with
       | none =>
         have hf:=hnone.1 ht
         dsimp only
         have e0:(⟨rowsT (tabT (fun _=>none) b.jobs) 6,b.rung⟩:Book)=b:=Book.eq_of hrows rfl
         rw [e0]
         split
         · rw [if_neg (fun h=>hf h.1)]
         · rfl
       | some j =>
         obtain ⟨hjm,hjx⟩:=(hTk j).1 ht
         have hf:0≤findB b x.job:=Decidable.byContradiction fun h=>by rw [hnone.2 h] at ht;cases ht
         obtain ⟨i,z,hi,hz,hzx⟩:=findB_pos hf
         have hzj:z=j:=huniq z (List.mem_of_getElem? hz) j hjm (by omega)
         subst hzj
         rw [hi] at hgs ⊢
         simp only [Int.toNat_natCast,hz] at hgs ⊢
         by_cases h4:z.next=x.time∧b.rung.length<60
         · rw [if_pos ⟨by omega,h4⟩] at hgs
           rw [if_pos ⟨h3,h4⟩,if_pos ⟨by omega,h4⟩]
           refine Book.eq_of ?_ rfl
           have e1:(⟨x.job,z.every,x.time+z.every⟩:Job)=⟨z.id,z.every,z.next+z.every⟩:=by rw [hzx,h4.1]
           rw [e1]
           refine hupd _ _ hgs.ord hgs.ok (fun y=>?_) (fun y h=>by cases h;exact hzx)
           obtain ⟨hil,hz'⟩:=List.getElem?_eq_some_iff.1 hz
           simp only [Option.some.injEq]
           constructor
           · intro h
             obtain ⟨k,hk⟩:=List.mem_iff_getElem?.1 h
             rw [List.getElem?_set] at hk
             split at hk
             · simp [hil] at hk;exact Or.inr hk
             · rename_i hki
               refine Or.inl ⟨List.mem_of_getElem? hk,fun he=>hki ?_⟩
               obtain ⟨hkl,hk'⟩:=List.getElem?_eq_some_iff.1 hk
               rcases Nat.lt_trichotomy i k with h5 | h5 | h5
               · have:=List.pairwise_iff_getElem.1 hb.ord i k hil hkl h5;rw [hz',hk'] at this;omega
               · exact h5
               · have:=List.pairwise_iff_getElem.1 hb.ord k i hkl hil h5;rw [hz',hk'] at this;omega
           · rintro (⟨h,hne⟩ | h)
             · obtain ⟨k,hk⟩:=List.mem_iff_getElem?.1 h
               refine List.mem_iff_getElem?.2 ⟨k,?_⟩
               rw [List.getElem?_set]
               split
               · rename_i hik
                 subst hik
                 rw [hz] at hk;cases hk;exact absurd hzx hne
               · exact hk
             · subst h
               refine List.mem_iff_getElem?.2 ⟨i,?_⟩
               rw [List.getElem?_set]
               simp [hil]
         · rw [if_neg (fun h=>h4 h.2),if_neg (fun h=>h4 h.2)]
           exact Book.eq_of hrows rfl
     · rw [if_neg h3]
       cases ht:tabT (fun _=>none) b.jobs x.job.toNat with
       | none=>exact Book.eq_of hrows rfl
       | some j=>dsimp only;rw [if_neg (fun h=>h3 h.1)];exact Book.eq_of hrows rfl
end
section
open Go.RowKit
def ptrT (o:Option Nat):Value:=.pointer (o.map fun b=>⟨b,0,none⟩)
structure TabAt (w:World) (T:Nat) (t:Nat→Option Job) (tp:Nat→Option Nat):Prop where
 ptr:∀ i,i<6→w.cell? ⟨T,i,none⟩=some (ptrT (tp i))
 frz:∀ i,i<6→w.frozen? ⟨T,i,none⟩=false
 non:∀ i,i<6→(tp i=none↔t i=none)
 job:∀ i b j,i<6→tp i=some b→t i=some j→b≠T∧w.cell? ⟨b,0,none⟩=some (.int .i64 j.id)∧w.cell? ⟨b,1,none⟩=some (.int .i64 j.every)∧w.cell? ⟨b,2,none⟩=some (.int .i64 j.next)
theorem TabAt.onto {w w':World} {T:Nat} {t:Nat→Option Job} {tp:Nat→Option Nat} (h:TabAt w T t tp) (hb:Onto w w'):TabAt w' T t tp:=by
 refine ⟨fun i hi=>cellB hb (h.ptr i hi),fun i hi=>frozB hb (h.ptr i hi) (h.frz i hi),h.non,fun i b j hi h1 h2=>?_⟩
 obtain ⟨h3,h4,h5,h6⟩:=h.job i b j hi h1 h2
 exact ⟨h3,cellB hb h4,cellB hb h5,cellB hb h6⟩
theorem TabAt.draw {w:World} {T:Nat} {t:Nat→Option Job} {tp:Nat→Option Nat} (h:TabAt w T t tp):TabAt w.drew T t tp:=h.onto (Onto.draw (Onto.rfl' w))
theorem TabAt.zero {w:World} {ty:TypeId}:TabAt (w.alloc (Obj.cells #[.pointer none,.pointer none,.pointer none,.pointer none,.pointer none,.pointer none] ty)) w.heap.size (fun _=>none) (fun _=>none):=by
 refine ⟨fun i hi=>?_,fun i hi=>by simp [go_sem],fun i hi=>by simp,fun i b j hi h1 h2=>by cases h1⟩
 match i,hi with
 | 0,_=>simp [go_sem,ptrT]
 | 1,_=>simp [go_sem,ptrT]
 | 2,_=>simp [go_sem,ptrT]
 | 3,_=>simp [go_sem,ptrT]
 | 4,_=>simp [go_sem,ptrT]
 | 5,_=>simp [go_sem,ptrT]
theorem cellNe {w:World} {p q:Addr} {u:Value} (h:p≠q):(w.setCell q u).cell? p=w.cell? p:=World.cell?_setCell_other w _ _ _ (Ne.symm h)
theorem cellS {w:World} {z o:Nat} {u v:Value} {p:Addr} (h:w.cell? p=some v) (hz:p.block≠z):(w.setCell ⟨z,o,none⟩ u).cell? p=some v :=
 (World.cell?_setCell_other w _ _ _ (fun e=>hz (by rw [← e]))).trans h
theorem TabAt.put {w : World} {T : Nat} {t : Nat → Option Job} {tp : Nat → Option Nat} (h : TabAt w T t tp) {k : Nat} (hk : k < 6) {o : Option Nat} {oj : Option Job} (hn : o = none ↔ oj = none)
    (hj:∀ b j,o=some b→oj=some j→b≠T∧w.cell? ⟨b,0,none⟩=some (.int .i64 j.id)∧w.cell? ⟨b,1,none⟩=some (.int .i64 j.every)∧w.cell? ⟨b,2,none⟩=some (.int .i64 j.next)) :
    TabAt (w.setCell ⟨T,k,none⟩ (ptrT o)) T (updT t k oj) (fun i=>if i=k then o else tp i):=by
 refine ⟨fun i hi=>?_,fun i hi=>by simpa using h.frz i hi,fun i hi=>?_,fun i b j hi h1 h2=>?_⟩
 · by_cases e:i=k
   · subst e
     rw [if_pos rfl]
     exact World.cell?_setCell_same w _ _ (h.ptr i hi)
   · rw [if_neg e,cellNe (by intro e';injection e' with _ e2 _;exact e e2)]
     exact h.ptr i hi
 · by_cases e:i=k
   · subst e;rw [if_pos rfl,updT_same];exact hn
   · rw [if_neg e,updT_other _ _ e];exact h.non i hi
 · by_cases e:i=k
   · subst e
     rw [if_pos rfl] at h1;rw [updT_same] at h2
     obtain ⟨h3,h4,h5,h6⟩:=hj b j h1 h2
     exact ⟨h3,by rw [cellNe (by intro e;injection e;contradiction)];exact h4,by rw [cellNe (by intro e;injection e;contradiction)];exact h5,by rw [cellNe (by intro e;injection e;contradiction)];exact h6⟩
   · rw [if_neg e] at h1;rw [updT_other _ _ e] at h2
     obtain ⟨h3,h4,h5,h6⟩:=h.job i b j hi h1 h2
     exact ⟨h3,by rw [cellNe (by intro e;injection e;contradiction)];exact h4,by rw [cellNe (by intro e;injection e;contradiction)];exact h5,by rw [cellNe (by intro e;injection e;contradiction)];exact h6⟩
theorem TabAt.lt {w:World} {T:Nat} {t:Nat→Option Job} {tp:Nat→Option Nat} (h:TabAt w T t tp) {i b:Nat} (hi:i<6) (h1:tp i=some b):b<w.heap.size:=by
 cases ht:t i with
 | none=>rw [(h.non i hi).2 ht] at h1;cases h1
 | some j=>exact World.block_lt_of_cell? w _ (h.job i b j hi h1 ht).2.1
theorem TabAt.off {w:World} {T:Nat} {t:Nat→Option Job} {tp:Nat→Option Nat} (h:TabAt w T t tp) {z o:Nat} (hT:T≠z) (hz:∀ i b,i<6→tp i=some b→b≠z) (u:Value):TabAt (w.setCell ⟨z,o,none⟩ u) T t tp:=by
 refine ⟨fun i hi=>?_,fun i hi=>by simpa using h.frz i hi,h.non,fun i b j hi h1 h2=>?_⟩
 · rw [cellNe (by intro e;injection e;contradiction)];exact h.ptr i hi
 · have:=hz i b hi h1
   obtain ⟨h3,h4,h5,h6⟩:=h.job i b j hi h1 h2
   exact ⟨h3,by rw [cellNe (by intro e;injection e;contradiction)];exact h4,by rw [cellNe (by intro e;injection e;contradiction)];exact h5,by rw [cellNe (by intro e;injection e;contradiction)];exact h6⟩
def tab2 (b:Book) (x:Entry):Nat→Option Job :=
 let t:=tabT (fun _=>none) b.jobs
 if x.kind=1∧t x.job.toNat=none then updT t x.job.toNat (some ⟨x.job,x.every,x.time⟩)
 else if x.kind=2 then updT t x.job.toNat none
 else match t x.job.toNat with
  | some j=>if x.kind=3∧j.next=x.time∧b.rung.length<60 then updT t x.job.toNat (some ⟨x.job,j.every,x.time+j.every⟩) else t
  | none=>t
def rung2 (b:Book) (x:Entry):List Rung :=
 match tabT (fun _=>none) b.jobs x.job.toNat with
  | some j=>if x.kind=3∧j.next=x.time∧b.rung.length<60 then b.rung ++[⟨x.job,x.time,x.client⟩] else b.rung
  | none=>b.rung
theorem stepT_tab (b:Book) (x:Entry):stepT b x=⟨rowsT (tab2 b x) 6,rung2 b x⟩:=by
 unfold stepT tab2 rung2
 dsimp only
 cases tabT (fun _=>none) b.jobs x.job.toNat with
 | none =>
   dsimp only
   split
   · rfl
   · split <;> rfl
 | some j =>
   dsimp only
   simp only [reduceCtorEq,and_false,if_false]
   split
   · rename_i h
     rw [if_neg (by omega:¬ (x.kind=3∧_))]
   · split <;> rfl
structure Sw (w:World) (T O:Nat) (t:Nat→Option Job) (rg:List Rung) (wx:World) (tp:Nat→Option Nat) (A:Option Addr) (n c:Nat):Prop where
 tab:TabAt wx T t tp
 nb:∀ i z,i<6→tp i=some z→z≠O
 o0:wx.cell? ⟨O,0,none⟩=some (.slice none 0 0)
 o1:wx.cell? ⟨O,1,none⟩=some (.slice A n c)
 fo0:wx.frozen? ⟨O,0,none⟩=false
 fo1:wx.frozen? ⟨O,1,none⟩=false
 s:S wx 3 A n (rg.map encR)
 fresh:Fresh T A
 le:n≤c
 offO:OffN n O A
 offT:OffN n T A
 r0:wx.cell? ⟨w.heap.size+2,0,none⟩=some (.slice none 0 0)
 r1:wx.cell? ⟨w.heap.size+2,1,none⟩=some (.slice none 0 0)
 fr0:wx.frozen? ⟨w.heap.size+2,0,none⟩=false
 fr1:wx.frozen? ⟨w.heap.size+2,1,none⟩=false
 on:Onto w wx
 wT:w.heap.size+2<T
 TO:T<O
section
variable {w w1 w2:World} {T O:Nat} {t:Nat→Option Job} {rg:List Rung} {tp:Nat→Option Nat} {A:Option Addr} {n c:Nat}
theorem Sw.onto (h:Sw w T O t rg w1 tp A n c) (hb:Onto w1 w2):Sw w T O t rg w2 tp A n c :=
 ⟨h.tab.onto hb,h.nb,cellB hb h.o0,cellB hb h.o1,frozB hb h.o0 h.fo0,frozB hb h.o1 h.fo1,S.onto h.s hb,h.fresh,h.le,h.offO,h.offT,cellB hb h.r0,cellB hb h.r1,frozB hb h.r0 h.fr0,frozB hb h.r1 h.fr1,h.on.to hb,h.wT,h.TO⟩
theorem Sw.put (h : Sw w T O t rg w1 tp A n c) {k : Nat} (hk : k < 6) {o : Option Nat} {oj : Option Job} (hn : o = none ↔ oj = none) (hO : ∀ z, o = some z → z ≠ O)
    (hj:∀ b j,o=some b→oj=some j→b≠T∧w1.cell? ⟨b,0,none⟩=some (.int .i64 j.id)∧w1.cell? ⟨b,1,none⟩=some (.int .i64 j.every)∧w1.cell? ⟨b,2,none⟩=some (.int .i64 j.next)) :
    Sw w T O (updT t k oj) rg (w1.setCell ⟨T,k,none⟩ (ptrT o)) (fun i=>if i=k then o else tp i) A n c:=by
 have h1:=h.wT;have h2:=h.TO
 refine ⟨h.tab.put hk hn hj,fun i z hi hz=>?_,cellS h.o0 (by simp only;omega),cellS h.o1 (by simp only;omega),by simpa using h.fo0,by simpa using h.fo1,S.off h.s (p:=⟨T,k,none⟩) h.offT _,h.fresh,h.le,h.offO,h.offT,
  cellS h.r0 (by simp only;omega),cellS h.r1 (by simp only;omega),by simpa using h.fr0,by simpa using h.fr1,h.on.put (p:=⟨T,k,none⟩) (by simp only;omega) _,h1,h2⟩
 by_cases e:i=k
 · rw [if_pos e] at hz;exact hO z hz
 · rw [if_neg e] at hz;exact h.nb i z hi hz
theorem Sw.rung (h : Sw w T O t rg w1 tp A n c) {A' : Option Addr} {n' c' : Nat} {rg' : List Rung} (s : S w1 3 A' n' (rg'.map encR)) (fr : Fresh T A') (le : n' ≤ c') (oO : OffN n' O A') (oT : OffN n' T A') :
    Sw w T O t rg' (w1.setCell ⟨O,1,none⟩ (.slice A' n' c')) tp A' n' c':=by
 have h1:=h.wT;have h2:=h.TO
 refine ⟨h.tab.off (by omega) h.nb _,h.nb,?_,World.cell?_setCell_same w1 _ _ h.o1,by simpa using h.fo0,by simpa using h.fo1,S.off s (p:=⟨O,1,none⟩) oO _,fr,le,oO,oT,
  cellS h.r0 (by simp only;omega),cellS h.r1 (by simp only;omega),by simpa using h.fr0,by simpa using h.fr1,h.on.put (p:=⟨O,1,none⟩) (by simp only;omega) _,h1,h2⟩
 rw [cellNe (by intro e;injection e with _ e2 _;cases e2)]
 exact h.o0
theorem TabAt.grow {w w':World} {T:Nat} {t:Nat→Option Job} {tp:Nat→Option Nat} {row:Option Nat} (h:TabAt w T t tp) (hg:w.grownBy w' row) (hT:some T≠row) (hz:∀ i b,i<6→tp i=some b→some b≠row):TabAt w' T t tp:=by
 refine ⟨fun i hi=>grow_cell hg (h.ptr i hi) hT,fun i hi=>grow_froz hg (h.ptr i hi) (h.frz i hi) hT,h.non,fun i b j hi h1 h2=>?_⟩
 obtain ⟨h3,h4,h5,h6⟩:=h.job i b j hi h1 h2
 have hb:=hz i b hi h1
 exact ⟨h3,grow_cell hg h4 hb,grow_cell hg h5 hb,grow_cell hg h6 hb⟩
theorem Sw.grew (h : Sw w T O t rg w1 tp A n c) {row : Option Nat} (hg : w1.grownBy w2 row) (hT : some T ≠ row) (hO : some O ≠ row) (hR : some (w.heap.size + 2) ≠ row) (hz : ∀ i b, i < 6 → tp i = some b → some b ≠ row) (hon : Onto w w2)
    {A':Option Addr} {n' c':Nat} {rg':List Rung} (s:S w2 3 A' n' (rg'.map encR)) (fr:Fresh T A') (le:n'≤c') (oO:OffN n' O A') (oT:OffN n' T A') :
    Sw w T O t rg' (w2.setCell ⟨O,1,none⟩ (.slice A' n' c')) tp A' n' c':=by
 have h1:=h.wT;have h2:=h.TO
 refine ⟨(h.tab.grow hg hT hz).off (by omega) h.nb _,h.nb,?_,World.cell?_setCell_same w2 _ _ (grow_cell hg h.o1 hO),by simpa using grow_froz hg h.o0 h.fo0 hO,by simpa using grow_froz hg h.o1 h.fo1 hO,S.off s (p:=⟨O,1,none⟩) oO _,fr,le,oO,oT,
  cellS (grow_cell hg h.r0 hR) (by simp only;omega),cellS (grow_cell hg h.r1 hR) (by simp only;omega),by simpa using grow_froz hg h.r0 h.fr0 hR,by simpa using grow_froz hg h.r1 h.fr1 hR,hon.put (p:=⟨O,1,none⟩) (by simp only;omega) _,h1,h2⟩
 rw [cellNe (by intro e;injection e with _ e2 _;cases e2)]
 exact grow_cell hg h.o0 hO
end
theorem Sl.growB {w w':World} {B k n:Nat} {A:Option Addr} {rows:List (List Value)} {row:Option Nat} (h:Sl w B k A n rows) (hg:w.grownBy w' row) (hr:∀ z,z<B→some z≠row) (hB:B≤w.heap.size):Sl w' B k A n rows :=
 h.keep fun p hp=>World.cell?_of_block (hg.block p.block (by omega) (hr _ hp))
theorem Sl.unitJ {w:World} {t:TypeId} (x:Job):Sl (w.alloc (Obj.cells #[.int .i64 x.id,.int .i64 x.every,.int .i64 x.next] t)) (w.heap.size+1) 3 (some ⟨w.heap.size,0,none⟩) 1 [encJ x]:=by
 have:=Sl.block (k:=3) (w:=w.alloc (Obj.cells #[.int .i64 x.id,.int .i64 x.every,.int .i64 x.next] t)) [encJ x] (hNew rfl) (by simp [encJ]) (by rfl)
 simpa using this
end
section
section
variable {P:Program} {C:World→Prop} {l:List Oper} {n:Nat}
end
end
end Go.Proofs.YtidlffepdcldkaaGreatDoor
