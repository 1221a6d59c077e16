/- Part 6 of the proof: PureB, PureCl, LawW, LawW2. -/
import Derived.Test.YtidlffepdcldkaaGreatDoorBa01
import Derived.Test.YtidlffepdcldkaaGreatDoorBa05
namespace Go.Proofs.YtidlffepdcldkaaGreatDoor
set_option linter.unusedSimpArgs false
set_option linter.unusedVariables false
section
def badJ (x:Job):Prop:=x.id<0∨6≤x.id∨x.every<1∨100<x.every∨x.next<0∨100100<x.next
instance (x : Job) : Decidable (badJ x) := by unfold badJ; infer_instance
def badR (r:Rung):Prop:=r.job<0∨6≤r.job∨r.time<0∨100000<r.time∨r.client<0∨3≤r.client
theorem checkRs_at {l:List Rung} {k:Nat} {x:Rung} (hx:l[k]?=some x):checkRs (l.drop k)=if (x.job<0∨6≤x.job∨x.time<0∨100000<x.time∨x.client<0∨3≤x.client) then 3 else checkRs (l.drop (k+1)):=by
 obtain ⟨hk,rfl⟩:=List.getElem?_eq_some_iff.1 hx
 rw [List.drop_eq_getElem_cons hk]
 rfl
theorem checkRs_bad {l:List Rung} {k:Nat} {x:Rung} (hx:l[k]?=some x) (hb:badR x):checkRs (l.drop k)=3:=by rw [checkRs_at hx];exact if_pos hb
theorem checkRs_good {l:List Rung} {k:Nat} {x:Rung} (hx:l[k]?=some x) (hb:¬ badR x):checkRs (l.drop k)=checkRs (l.drop (k+1)):=by rw [checkRs_at hx];exact if_neg hb
theorem checkJs_at {last : Int} {l : List Job} {k : Nat} {x : Job} (hx : l[k]? = some x) : checkJs last (l.drop k) =
    if badJ x then 3 else if x.id≤last then 6 else checkJs x.id (l.drop (k+1)):=by
 obtain ⟨hk,rfl⟩:=List.getElem?_eq_some_iff.1 hx
 rw [List.drop_eq_getElem_cons hk]
 simp only [checkJs,badJ]
def aheadJ (l:List Job) (k:Nat):Int:=match k with | 0=>-1 | k+1=>((l[k]?).map (·.id)).getD 0
theorem findB_def {b:Book} {id:Int}:findB b id=idxI (fun j=>decide (j.id=id)) b.jobs:=rfl
theorem idxI_found {α:Type} {p:α→Bool} {l:List α} (h:0≤idxI p l):∃ (i:Nat) (x:α),idxI p l=i∧l[i]?=some x∧p x=true:=by
 unfold idxI at h ⊢
 cases hf:l.findIdx? p with
 | none=>rw [hf] at h;simp at h
 | some i =>
   obtain ⟨hi,hp,_⟩:=List.findIdx?_eq_some_iff_getElem.1 hf
   exact ⟨i,l[i],by simp,List.getElem?_eq_getElem hi,hp⟩
theorem checkJs_mem {x:Job}:∀ {l:List Job} {last:Int},checkJs last l=0→x∈l→¬ badJ x
 | [],_,_,h=>by simp at h
 | y ::l,last,hc,h=>by
   have e:checkJs last (y ::l)=if badJ y then 3 else if y.id≤last then 6 else checkJs y.id l:=checkJs_at (l:=y ::l) (k:=0) rfl
   rw [e] at hc
   split at hc
   · cases hc
   · rename_i hb
     split at hc
     · cases hc
     · rcases List.mem_cons.1 h with rfl | h
       · exact hb
       · exact checkJs_mem hc h
theorem checkB_parts {b:Book} (h:checkB b=0):b.jobs.length≤6∧b.rung.length≤60∧checkJs (-1) b.jobs=0∧checkRs b.rung=0:=by
 unfold checkB at h
 split at h
 · cases h
 · split at h
   · refine ⟨by omega,by omega,by assumption,h⟩
   · contradiction
theorem posJ_at {l:List Job} {id:Int} {a:Nat} (h:∀ b y,b<a→l[b]?=some y→y.id<id) (hx:∀ x,l[a]?=some x→¬ x.id<id) (ha:a≤l.length):posJ l id=a:=by
 induction l generalizing a with
 | nil=>simp at ha;subst ha;rfl
 | cons x l ih =>
   cases a with
   | zero =>
     have:=hx x rfl
     simp [posJ,List.takeWhile,this]
   | succ a =>
     have h0:=h 0 x (by omega) rfl
     have:=ih (a:=a) (fun b y hb hy=>h (b+1) y (by omega) (by simpa using hy)) (fun y hy=>hx y (by simpa using hy)) (by simpa using ha)
     simp only [posJ,List.takeWhile_cons,h0,decide_true] at this ⊢
     simp [this]
theorem checkJs_cons {x:Job} {l:List Job} {last:Int}:checkJs last (x ::l)=if badJ x then 3 else if x.id≤last then 6 else checkJs x.id l:=checkJs_at (l:=x ::l) (k:=0) rfl
theorem checkJs_iff {l:List Job}:∀ {last:Int},checkJs last l=0↔(∀ x∈l,¬ badJ x)∧(∀ x∈l,last<x.id)∧l.Pairwise (fun a b=>a.id<b.id):=by
 induction l with
 | nil=>simp [checkJs]
 | cons y l ih =>
   intro last
   rw [checkJs_cons]
   by_cases hb:badJ y
   · rw [if_pos hb]
     simp [hb]
   · rw [if_neg hb]
     by_cases hl:y.id≤last
     · rw [if_pos hl]
       constructor
       · intro h;cases h
       · intro h
         have:=h.2.1 y (by simp)
         omega
     · rw [if_neg hl,ih,List.pairwise_cons]
       constructor
       · rintro ⟨h1,h2,h3⟩
         exact ⟨by simpa [hb] using h1,by
          intro x hx
          rcases List.mem_cons.1 hx with rfl | hx
          · omega
          · have:=h2 x hx;omega,h2,h3⟩
       · rintro ⟨h1,h2,h3,h4⟩
         exact ⟨fun x hx=>h1 x (by simp [hx]),h3,h4⟩
theorem checkRs_iff {l:List Rung}:checkRs l=0↔∀ x∈l,¬ badR x:=by
 induction l with
 | nil=>simp [checkRs]
 | cons y l ih =>
   by_cases hb:badR y
   · rw [show checkRs (y ::l)=3 from checkRs_bad (l:=y ::l) (k:=0) rfl hb];simp [hb]
   · rw [show checkRs (y ::l)=checkRs l from checkRs_good (l:=y ::l) (k:=0) rfl hb,ih];simp [hb]
structure GoodB (b:Book):Prop where
 nj:b.jobs.length≤6
 nr:b.rung.length≤60
 ok:∀ x∈b.jobs,¬ badJ x
 ord:b.jobs.Pairwise (fun a c=>a.id<c.id)
 rok:∀ x∈b.rung,¬ badR x
theorem checkB_iff {b:Book}:checkB b=0↔GoodB b:=by
 constructor
 · intro h
   obtain ⟨h1,h2,h3,h4⟩:=checkB_parts h
   obtain ⟨h5,_,h7⟩:=checkJs_iff.1 h3
   exact ⟨h1,h2,h5,h7,checkRs_iff.1 h4⟩
 · rintro ⟨h1,h2,h3,h4,h5⟩
   have e:checkJs (-1) b.jobs=0:=checkJs_iff.2 ⟨h3,fun x hx=>by have:=h3 x hx;unfold badJ at this;omega,h4⟩
   unfold checkB
   rw [if_neg (by omega),if_pos e]
   exact checkRs_iff.2 h5
theorem few {l:List Job}:∀ {lo hi:Int},lo≤hi→(∀ x∈l,lo≤x.id∧x.id<hi)→l.Pairwise (fun a c=>a.id<c.id)→(l.length:Int)≤hi - lo:=by
 induction l with
 | nil=>intro lo hi h _ _;simp;omega
 | cons y l ih =>
   intro lo hi h hr hp
   obtain ⟨h1,h2⟩:=List.pairwise_cons.1 hp
   have hy:=hr y (by simp)
   have:=ih (lo:=y.id+1) (hi:=hi) (by omega) (fun x hx=>⟨by have:=h1 x hx;omega,(hr x (by simp [hx])).2⟩) h2
   simp only [List.length_cons]
   omega
theorem posJ_split (l:List Job) (id:Int):l.take (posJ l id)=l.takeWhile (fun j=>decide (j.id<id))∧l.drop (posJ l id)=l.dropWhile (fun j=>decide (j.id<id)):=by
 have h:=List.takeWhile_append_dropWhile (p:=fun j:Job=>decide (j.id<id)) (l:=l)
 unfold posJ
 constructor
 · conv=>lhs;arg 2;rw [← h]
   rw [List.take_left]
 · conv=>lhs;arg 2;rw [← h]
   rw [List.drop_left]
theorem mem_takeWhile_lt {l:List Job} {id:Int}:∀ {x:Job},x∈l.takeWhile (fun j=>decide (j.id<id))→x.id<id:=by
 induction l with
 | nil=>simp
 | cons y l ih =>
   intro x hx
   rw [List.takeWhile_cons] at hx
   split at hx
   · rename_i h
     rcases List.mem_cons.1 hx with rfl | hx
     · simpa using h
     · exact ih hx
   · simp at hx
theorem mem_dropWhile_ge {l:List Job} {id:Int} (hp:l.Pairwise (fun a c=>a.id<c.id)):∀ {x:Job},x∈l.dropWhile (fun j=>decide (j.id<id))→id≤x.id:=by
 induction l with
 | nil=>simp
 | cons y l ih =>
   intro x hx
   obtain ⟨h1,h2⟩:=List.pairwise_cons.1 hp
   rw [List.dropWhile_cons] at hx
   split at hx
   · exact ih h2 hx
   · rename_i h
     have hy:id≤y.id:=by simpa using h
     rcases List.mem_cons.1 hx with rfl | hx
     · exact hy
     · have:=h1 x hx;omega
theorem findB_neg {b:Book} {id:Int} (h:¬ 0≤findB b id):∀ x∈b.jobs,x.id≠id:=by
 intro x hx e
 unfold findB idxI at h
 cases hf:b.jobs.findIdx? (fun j=>decide (j.id=id)) with
 | none =>
   rw [List.findIdx?_eq_none_iff] at hf
   have:=hf x hx
   simp [e] at this
 | some i=>rw [hf] at h;simp at h
theorem findB_pos {b:Book} {id:Int} (h:0≤findB b id):∃ (i:Nat) (x:Job),findB b id=i∧b.jobs[i]?=some x∧x.id=id:=by
 obtain ⟨i,x,h1,h2,h3⟩:=idxI_found (by rw [← findB_def];exact h)
 exact ⟨i,x,h1,h2,by simpa using h3⟩
theorem checkE_put {e:Entry} (h:checkE e=0) (hk:e.kind=1):0≤e.job∧e.job<6∧1≤e.every∧e.every≤100∧0≤e.time∧e.time≤100000:=by
 unfold checkE at h
 (repeat' split at h) <;> omega
theorem checkE_ring {e:Entry} (h:checkE e=0) (hk:e.kind=3):0≤e.job∧e.job<6∧0≤e.time∧e.time≤100000∧0≤e.client∧e.client<3:=by
 unfold checkE at h
 (repeat' split at h) <;> omega
theorem six {l:List Job} (ok:∀ x∈l,¬ badJ x) (ord:l.Pairwise (fun a c=>a.id<c.id)):l.length≤6:=by
 have:=few (lo:=0) (hi:=6) (by omega) (fun x hx=>by have:=ok x hx;unfold badJ at this;omega) ord
 omega
theorem putJ_good {l : List Job} {e : Job} (ok : ∀ x ∈ l, ¬ badJ x) (ord : l.Pairwise (fun a c => a.id < c.id)) (he : ¬ badJ e) (hn : ∀ x ∈ l, x.id ≠ e.id) :
    (∀ x∈l.take (posJ l e.id) ++[e] ++l.drop (posJ l e.id),¬ badJ x)∧(l.take (posJ l e.id) ++[e] ++l.drop (posJ l e.id)).Pairwise (fun a c=>a.id<c.id):=by
 constructor
 · intro x hx
   simp only [List.mem_append,List.mem_singleton] at hx
   rcases hx with (hx | rfl) | hx
   · exact ok x (List.mem_of_mem_take hx)
   · exact he
   · exact ok x (List.mem_of_mem_drop hx)
 · have h1:∀ x∈l.take (posJ l e.id),x.id<e.id:=fun x hx=>by rw [(posJ_split l e.id).1] at hx;exact mem_takeWhile_lt hx
   have h2:∀ x∈l.drop (posJ l e.id),e.id<x.id:=fun x hx=>by
    have h3:=hn x (List.mem_of_mem_drop hx)
    rw [(posJ_split l e.id).2] at hx
    have:=mem_dropWhile_ge ord hx
    omega
   rw [List.append_assoc,List.pairwise_append]
   refine ⟨ord.sublist (List.take_sublist _ _),?_,?_⟩
   · rw [List.singleton_append,List.pairwise_cons]
     exact ⟨h2,ord.sublist (List.drop_sublist _ _)⟩
   · intro x hx y hy
     have hx':=h1 x hx
     rcases List.mem_append.1 hy with hy | hy
     · simp at hy;subst hy;exact hx'
     · have:=h2 y hy;omega
theorem stepB_good {b:Book} {e:Entry} (hb:GoodB b) (he:checkE e=0):GoodB (stepB b e):=by
 unfold stepB
 split
 · rename_i hk
   split
   · exact hb
   · rename_i hf
     have hp:=checkE_put he hk
     obtain ⟨h1,h2⟩:=putJ_good (e:=⟨e.job,e.every,e.time⟩) hb.ok hb.ord (by unfold badJ;simp only;omega) (findB_neg hf)
     exact ⟨six h1 h2,hb.nr,h1,h2,hb.rok⟩
 · split
   · split
     · have h1:∀ x∈b.jobs.take (findB b e.job).toNat ++b.jobs.drop ((findB b e.job).toNat+1),¬ badJ x:=fun x hx=>by
        rcases List.mem_append.1 hx with hx | hx
        · exact hb.ok x (List.mem_of_mem_take hx)
        · exact hb.ok x (List.mem_of_mem_drop hx)
       have h2:(b.jobs.take (findB b e.job).toNat ++b.jobs.drop ((findB b e.job).toNat+1)).Pairwise (fun a c=>a.id<c.id):=by
        rw [← List.eraseIdx_eq_take_drop_succ]
        exact hb.ord.sublist (List.eraseIdx_sublist _ _)
       exact ⟨six h1 h2,hb.nr,h1,h2,hb.rok⟩
     · exact hb
   · split
     · rename_i hk
       have hr:=checkE_ring he hk
       split
       · rename_i j hj
         split
         · rename_i hc
           have hjb:=hb.ok j (List.mem_of_getElem? hj)
           have h1:∀ x∈b.jobs.set (findB b e.job).toNat ⟨j.id,j.every,j.next+j.every⟩,¬ badJ x:=fun x hx=>by
            rcases List.mem_or_eq_of_mem_set hx with hx | rfl
            · exact hb.ok x hx
            · unfold badJ at hjb ⊢;simp only;omega
           have h2:(b.jobs.set (findB b e.job).toNat ⟨j.id,j.every,j.next+j.every⟩).Pairwise (fun a c=>a.id<c.id):=by
            have hm:(b.jobs.set (findB b e.job).toNat ⟨j.id,j.every,j.next+j.every⟩).map (·.id)=b.jobs.map (·.id):=by
             rw [List.map_set]
             apply List.ext_getElem?
             intro i
             rw [List.getElem?_set]
             split
             · rename_i hi
               subst hi
               rw [List.getElem?_map,hj]
               simp only [List.length_map,Option.map_some]
               rw [if_pos (List.getElem?_eq_some_iff.1 hj).1]
             · rfl
            have:=hb.ord
            rw [← List.pairwise_map (f:=Job.id) (R:=fun a c=>a<c)] at this ⊢
            rw [hm];exact this
           exact ⟨six h1 h2,by simp;omega,h1,h2,fun x hx=>by
            rcases List.mem_append.1 hx with hx | hx
            · exact hb.rok x hx
            · simp at hx;subst hx;unfold badR;simp only;omega⟩
         · exact hb
       · exact hb
     · exact hb
end
section
theorem checkCl_book {c:Cli} (h:checkCl c=0):GoodB c.b:=by
 unfold checkCl at h
 split at h
 · cases h
 · split at h
   · exact absurd h (by assumption)
   · split at h
     · cases h
     · exact checkB_iff.1 h
theorem restsCl_book {c:Cli} (h:restsCl c=0):GoodB c.b:=by
 unfold restsCl at h
 split at h
 · exact absurd h (by assumption)
 · exact checkCl_book (Decidable.byContradiction (by assumption))
theorem checkCl_link {c:Cli} (h:checkCl c=0):0≤c.link∧c.link≤2:=by
 unfold checkCl at h
 split at h
 · cases h
 · omega
theorem checkCl_iff {c : Cli} : checkCl c = 0 ↔ (1 ≤ c.epoch ∧ c.epoch ≤ 20 ∧ 0 ≤ c.doing ∧ c.doing ≤ 2 ∧ 0 ≤ c.at_ ∧ c.at_ < 60 ∧ 0 ≤ c.link ∧ c.link < 3 ∧ 0 ≤ c.played ∧ c.played ≤ 60) ∧ checkE c.e = 0 ∧
    (c.doing≠2→c.at_=0∧c.link=0)∧(c.doing=0→c.e=zeroE)∧(c.doing=1→c.e.kind≠0)∧GoodB c.b:=by
 unfold checkCl
 constructor
 · intro h
   split at h
   · cases h
   · rename_i h1
     split at h
     · exact absurd h (by assumption)
     · rename_i h2
       split at h
       · cases h
       · rename_i h3
         refine ⟨by omega,by omega,fun h4=>?_,fun h4=>?_,fun h4=>?_,checkB_iff.1 h⟩
         · have:¬ (c.at_+c.link≠0):=fun h5=>h3 (Or.inl ⟨h4,h5⟩)
           omega
         · exact Decidable.byContradiction fun h5=>h3 (Or.inr (Or.inl ⟨h4,h5⟩))
         · exact fun h5=>h3 (Or.inr (Or.inr ⟨h4,h5⟩))
 · rintro ⟨h1,h2,h3,h4,h5,h6⟩
   rw [if_neg (by omega),if_neg (by simp [h2]),if_neg,checkB_iff.2 h6]
   rintro (⟨h7,h8⟩ | ⟨h7,h8⟩ | ⟨h7,h8⟩)
   · have:=h3 h7;omega
   · exact h8 (h4 h7)
   · exact h5 h7 h8
theorem applyB_good {b:Book} {e:Entry} (hb:GoodB b) (h:(applyB b e).2=0):checkE e=0∧GoodB (applyB b e).1:=by
 unfold applyB at h ⊢
 rw [if_neg (by simp [checkB_iff.2 hb])] at h ⊢
 by_cases he:checkE e≠0
 · rw [if_pos he] at h;exact absurd h he
 · rw [if_neg he]
   exact ⟨by simpa using he,stepB_good hb (by simpa using he)⟩
theorem playCl_keeps {c:Cli} {x:Entry} (h:(playCl c x).2=0):checkCl c=0∧c.played<60∧checkE x=0∧playCl c x=(⟨c.epoch,c.doing,c.e,c.at_,c.link,c.played+1,(applyB c.b x).1⟩,0)∧checkCl ⟨c.epoch,c.doing,c.e,c.at_,c.link,c.played+1,(applyB c.b x).1⟩=0:=by
 unfold playCl at h ⊢
 split at h
 · exact absurd h (by assumption)
 · rename_i h1
   have h1':checkCl c=0:=by simpa using h1
   have hc:=checkCl_iff.1 h1'
   split at h
   · cases h
   · rename_i h2
     split at h
     · exact absurd h (by assumption)
     · rename_i h3
       have hg:=applyB_good hc.2.2.2.2.2 (by simpa using h3)
       rw [if_neg h1,if_neg h2,if_neg h3]
       refine ⟨h1',by omega,hg.1,rfl,checkCl_iff.2 ⟨by dsimp only;omega,hc.2.1,hc.2.2.1,hc.2.2.2.1,hc.2.2.2.2.1,hg.2⟩⟩
end
section
/-! ### Nodes -/
structure NodI (n:Nod) (l m:List Rec) (g:Uni):Prop where
 ok:OkRs (l ++m)
 unit:unitL l=(n.u,0)
 grown:unitL (l ++m)=(g,0)
 safe:n.d.safe=txt l
 back:recoverK n.d=(⟨txt (l ++m),[]⟩,l ++m,0)
 chk:checkK n.d=0
 up:n.up=true→n.d.wait=[]
theorem OkRs.left {l m:List Rec} (h:OkRs (l ++m)):OkRs l:=fun x hx=>h x (List.mem_append_left _ hx)
theorem safe_back {l m:List Rec} {d:Dsk} (ho:OkRs (l ++m)) (hs:d.safe=txt l) (hl:l.length≤160) (hc:checkK d=0):recoverK ⟨d.safe,[]⟩=(⟨txt l,[]⟩,l,0):=by
 have hb:=(checkK_iff.1 hc).1
 rw [hs] at hb ⊢
 exact recover_safe ho.left hl (by omega)
theorem checkN_inv {n:Nod} (h:(checkN n).2=0):∃ l m,NodI n l m (checkN n).1:=by
 unfold checkN at h ⊢
 by_cases h1:checkK n.d≠0
 · rw [if_pos h1] at h;exact absurd h h1
 · rw [if_neg h1] at h ⊢
   have h1:=Decidable.not_not.1 h1
   by_cases h2:n.up=true∧0<n.d.wait.length
   · rw [if_pos h2] at h;cases h
   · rw [if_neg h2] at h ⊢
     obtain ⟨l,m,hl,hm,hs,hw,hlen,hrec,_⟩:=recover_good h1
     have e1:=safe_back (hl.app hm) hs (by rw [List.length_append] at hlen;omega) h1
     rw [e1,hrec] at h ⊢
     dsimp only at h ⊢
     by_cases h3:(unitL l).2≠0
     · rw [if_pos h3] at h;exact absurd h h3
     · rw [if_neg h3] at h ⊢
       have h3:=Decidable.not_not.1 h3
       by_cases h4:(unitL l).1≠n.u
       · rw [if_pos h4] at h;cases h
       · rw [if_neg h4] at h ⊢
         have h4:=Decidable.not_not.1 h4
         refine ⟨l,m,hl.app hm,Prod.ext h4 h3,Prod.ext rfl h,hs,hrec,h1,fun hu=>?_⟩
         apply List.eq_nil_of_length_eq_zero
         have:¬ 0<n.d.wait.length:=fun h=>h2 ⟨hu,h⟩
         omega
section
variable {n:Nod} {l m:List Rec} {g u:Uni} {d:Dsk} {r:Rec}
theorem NodI.chkN (h:NodI n l m g):checkN n=(g,0):=by
 unfold checkN
 have hf:=unitL_few h.unit
 rw [if_neg (by simp [h.chk]),if_neg (by rintro ⟨h1,h2⟩;rw [h.up h1] at h2;simp at h2),safe_back h.ok h.safe (by omega) h.chk,h.back]
 dsimp only
 rw [h.unit,if_neg (by simp),if_neg (by simp),h.grown]
theorem NodI.holds (h:NodI n l m g) (hu:n.up=true):m=[]∧g=n.u∧Holds n.u n.d l:=by
 have hw:=h.up hu
 have hf:=unitL_few h.unit
 have hd:n.d=⟨txt l,[]⟩:=by rw [← h.safe,← hw]
 have e:=safe_back h.ok h.safe (by omega) h.chk
 rw [← hw] at e
 have hb:=h.back
 rw [show (⟨n.d.safe,n.d.wait⟩:Dsk)=n.d from rfl,hb] at e
 simp only [Prod.mk.injEq,and_true] at e
 have hm:m=[]:=by
  have:=congrArg List.length e.2
  rw [List.length_append] at this
  exact List.eq_nil_of_length_eq_zero (by omega)
 subst hm
 refine ⟨rfl,?_,h.unit,hd⟩
 have h1:=h.grown
 rw [List.append_nil,h.unit] at h1
 exact (Prod.mk.inj h1).1.symm
theorem Holds.nodI (h:Holds u d l) (up:Bool):NodI ⟨u,d,up⟩ l [] u:=by
 have h1:=h.back
 have h2:=h.size;have h3:=h.few;have h4:=h.ok
 have h5:=h.disk
 refine ⟨by simpa using h4,h.unit,by simpa using h.unit,by simp [h5],?_,?_,by simp [h5]⟩
 · rw [List.append_nil]
   show recoverK d=_
   rw [h1,h5]
 · show checkK d=0
   rw [h5]
   exact checkK_of h4 (by omega) (by simp;omega)
theorem NodI.down (h:NodI n l m g):NodI ⟨n.u,n.d,false⟩ l m g:=⟨h.ok,h.unit,h.grown,h.safe,h.back,h.chk,by simp⟩
theorem NodI.gHolds (h:NodI n l m g):Holds g ⟨txt (l ++m),[]⟩ (l ++m):=⟨h.grown,rfl⟩
theorem NodI.boot (h:NodI n l m g):bootN n=(⟨g,⟨txt (l ++m),[]⟩,true⟩,0):=by
 unfold bootN
 rw [h.back]
 dsimp only
 rw [h.grown]
 simp
theorem NodI.good (h:NodI n l m g):GoodU n.u.ep n.u.cells∧GoodU g.ep g.cells:=⟨unitL_good h.unit,unitL_good h.grown⟩
theorem NodI.upon (h:NodI n l m g):Upon n.u g:=by
 have h1:=unitL_go h.grown
 rw [unitGo_append (unitL_go h.unit)] at h1
 exact unitGo_upon h1
theorem Holds.write (h:Holds n.u n.d l) (hr:(nextU n.u r).2=0):writeN n r=(⟨(nextU n.u r).1,⟨txt (l ++[r]),[]⟩,n.up⟩,0)∧Holds (nextU n.u r).1 ⟨txt (l ++[r]),[]⟩ (l ++[r]):=by
 obtain ⟨d1,h1,h2,h3⟩:=h.next hr
 refine ⟨?_,h3⟩
 unfold writeN
 rw [if_neg (by simp [hr]),h1]
 dsimp only
 rw [h2]
 simp
theorem Holds.tear (h : Holds n.u n.d l) (hr : (nextU n.u r).2 = 0) (k : Int) : ∃ j, tearN n r k = (⟨n.u, ⟨txt l, (txt [r]).take j⟩, false⟩, 0) ∧
    (NodI ⟨n.u,⟨txt l,(txt [r]).take j⟩,false⟩ l [] n.u∨NodI ⟨n.u,⟨txt l,(txt [r]).take j⟩,false⟩ l [r] (nextU n.u r).1):=by
 have hc:=(nextU_good hr).2.1
 have hk0:r.kind≠0:=by
  intro e
  unfold checkR at hc
  rw [if_neg (by omega),if_neg (by omega)] at hc
  cases hc
 have h1:=h.put hc
 have h2:=h.size;have h3:=h.few;have h4:=h.ok
 have h5:=txt_len (OkRs.one hc)
 rw [List.length_singleton] at h5
 have hck:checkK ⟨txt l,txt [r]⟩=0:=checkK_of h4 (by omega) (by omega)
 have hkeep:0≤keepK ⟨txt l,txt [r]⟩ k∧keepK ⟨txt l,txt [r]⟩ k≤(txt [r]).length:=by
  unfold keepK
  dsimp only
  omega
 obtain ⟨q,hq⟩:∃ q,q=keepK ⟨txt l,txt [r]⟩ k:=⟨_,rfl⟩
 rw [← hq] at hkeep
 refine ⟨q.toNat,?_,?_⟩
 · unfold tearN
   rw [if_neg hk0,h1]
   dsimp only
   rw [if_neg (by simp),← hq]
   have:crashK ⟨txt l,txt [r]⟩ q=(⟨txt l,(txt [r]).take q.toNat⟩,0):=by
    unfold crashK
    rw [if_neg (by simp [hck])]
    dsimp only
    rw [if_neg (by omega)]
   rw [this,if_neg (by simp)]
 · obtain ⟨j,j1,j2,_⟩:=recover_part (l:=l) (m:=[r]) (k:=q.toNat) h4 (OkRs.one hc) (by rw [List.length_append];simp;omega) (by omega) (by omega)
   have hcc:checkK ⟨txt l,(txt [r]).take q.toNat⟩=0:=checkK_of h4 (by omega) (by rw [List.length_take];omega)
   simp only [List.length_singleton] at j1
   rcases (by omega:j=0∨j=1) with rfl | rfl
   · left
     exact ⟨by simpa using h4,h.unit,by simpa using h.unit,rfl,by simpa using j2,hcc,by simp⟩
   · right
     exact ⟨h4.app (OkRs.one hc),h.unit,unitL_snoc h.unit hr,rfl,by simpa using j2,hcc,by simp⟩
end
/-! ### Worlds -/
def OkCl (ns:List Nod) (c:Cli):Prop:=checkCl c=0∧(c.doing=2→0<c.link→cellAt (nodAt ns (c.link.toNat - 1)).u.cells c.at_.toNat=c.e)
abbrev gr (n:Nod):Uni:=(checkN n).1
structure GoodW (w:Wor):Prop where
 n3:w.n.length=3
 c3:w.c.length=3
 tip0:0≤w.tip
 tip1:w.tip≤60
 t0:0≤w.time
 t1:w.time≤100000
 node:∀ k,k<3→(checkN (nodAt w.n k)).2=0
 fit:∀ k,k<2→fitC (nodAt w.n k).u.cells (gr (nodAt w.n (k+1))).cells
 cli:∀ k,k<3→OkCl w.n (cliAt w.c k)
theorem checkNs3 {a b c:Nod}:checkNs none [a,b,c]=0↔(checkN a).2=0∧(checkN b).2=0∧(checkN c).2=0∧fitC a.u.cells (checkN b).1.cells∧fitC b.u.cells (checkN c).1.cells:=by
 by_cases h1:(checkN a).2=0
 · by_cases h2:(checkN b).2=0
   · by_cases h3:(checkN c).2=0
     · by_cases h4:fitC a.u.cells (checkN b).1.cells
       · by_cases h5:fitC b.u.cells (checkN c).1.cells <;> simp [checkNs,h1,h2,h3,h4,h5]
       · simp [checkNs,h1,h2,h3,h4]
     · by_cases h4:fitC a.u.cells (checkN b).1.cells <;> simp [checkNs,h1,h2,h3,h4]
   · simp [checkNs,h1,h2]
 · simp [checkNs,h1]
theorem checkCls_iff {ns:List Nod}:∀ {l:List Cli},checkCls ns l=0↔∀ c∈l,OkCl ns c
 | []=>by simp [checkCls]
 | c ::l=>by
   rw [checkCls,List.forall_mem_cons,← checkCls_iff]
   by_cases h1:checkCl c≠0
   · rw [if_pos h1]
     exact ⟨fun h=>absurd h h1,fun h=>absurd h.1.1 h1⟩
   · rw [if_neg h1]
     have h1:=Decidable.not_not.1 h1
     by_cases h2:c.doing=2∧0<c.link∧cellAt (nodAt ns (c.link.toNat - 1)).u.cells c.at_.toNat≠c.e
     · rw [if_pos h2]
       exact ⟨fun h=>(by cases h),fun h=>absurd (h.1.2 h2.1 h2.2.1) h2.2.2⟩
     · rw [if_neg h2]
       exact ⟨fun h=>⟨⟨h1,fun a b=>Decidable.byContradiction fun e=>h2 ⟨a,b,e⟩⟩,h⟩,fun h=>h.2⟩
theorem len3 {α:Type} {l:List α} (h:l.length=3):∃ a b c,l=[a,b,c]:=by
 match l,h with
 | [a,b,c],_=>exact ⟨a,b,c,rfl⟩
theorem lt3 {k:Nat} (h:k<3):k=0∨k=1∨k=2:=by omega
theorem checkW_iff {w:Wor}:checkW w=0↔GoodW w:=by
 unfold checkW
 constructor
 · intro h
   split at h
   · cases h
   · rename_i h1
     split at h
     · cases h
     · rename_i h2
       split at h
       · rename_i h3;exact absurd h h3
       · rename_i h3
         have h3:=Decidable.not_not.1 h3
         have hn:w.n.length=3:=by omega
         have hc:w.c.length=3:=by omega
         obtain ⟨a,b,c,e⟩:=len3 hn
         obtain ⟨x,y,z,e'⟩:=len3 hc
         rw [e] at h3
         obtain ⟨g1,g2,g3,g4,g5⟩:=checkNs3.1 h3
         have hcl:=checkCls_iff.1 h
         refine ⟨hn,hc,by omega,by omega,by omega,by omega,?_,?_,?_⟩
         · intro k hk
           rw [e]
           rcases lt3 hk with rfl | rfl | rfl
           · exact g1
           · exact g2
           · exact g3
         · intro k hk
           rw [e]
           rcases (by omega:k=0∨k=1) with rfl | rfl
           · exact g4
           · exact g5
         · intro k hk
           rw [e'] at hcl ⊢
           rcases lt3 hk with rfl | rfl | rfl
           · exact hcl x (by simp)
           · exact hcl y (by simp)
           · exact hcl z (by simp)
 · intro h
   have h1:=h.n3;have h2:=h.c3;have h3:=h.tip0;have h4:=h.tip1;have h5:=h.t0;have h6:=h.t1
   obtain ⟨a,b,c,e⟩:=len3 h1
   obtain ⟨x,y,z,e'⟩:=len3 h2
   have hn:=h.node;have hf:=h.fit;have hcl:=h.cli
   rw [if_neg (by omega),if_neg (by omega)]
   have:checkNs none w.n=0:=by
    rw [e] at hn hf ⊢
    exact checkNs3.2 ⟨hn 0 (by omega),hn 1 (by omega),hn 2 (by omega),hf 0 (by omega),hf 1 (by omega)⟩
   rw [if_neg (by simp [this])]
   refine checkCls_iff.2 fun q hq=>?_
   rw [e'] at hq hcl
   simp only [List.mem_cons,List.not_mem_nil,or_false] at hq
   rcases hq with rfl | rfl | rfl
   · exact hcl 0 (by omega)
   · exact hcl 1 (by omega)
   · exact hcl 2 (by omega)
theorem nodAt_set {l:List Nod} {k j:Nat} {n:Nod} (hk:k<l.length):nodAt (l.set k n) j=if j=k then n else nodAt l j:=by
 unfold nodAt
 rw [List.getElem?_set]
 by_cases h:k=j
 · subst h;simp [hk]
 · rw [if_neg h,if_neg (Ne.symm h)]
theorem cliAt_set {l:List Cli} {k j:Nat} {n:Cli} (hk:k<l.length):cliAt (l.set k n) j=if j=k then n else cliAt l j:=by
 unfold cliAt
 rw [List.getElem?_set]
 by_cases h:k=j
 · subst h;simp [hk]
 · rw [if_neg h,if_neg (Ne.symm h)]
theorem uniAt_units {ns:List Nod} {k:Nat}:uniAt (unitsN ns) k=(nodAt ns k).u:=by
 unfold uniAt unitsN nodAt
 rw [List.getElem?_map]
 cases ns[k]? <;> rfl
theorem fitC.upon {p p' u:Uni} (h:fitC p.cells u.cells) (hp:Upon p p'):fitC p'.cells u.cells:=fun k hk=>by
 rcases h k hk with e | e
 · exact .inl e
 · by_cases h4:(cellAt u.cells k).kind=4
   · exact .inl h4
   · exact .inr ((hp.cell k (by rw [e];exact h4)).trans e)
theorem OkCl.kind {ns:List Nod} {c:Cli} (h:OkCl ns c):0≤c.e.kind∧c.e.kind≤3:=checkE_kd (checkCl_iff.1 h.1).2.1
theorem OkCl.upon {ns ns':List Nod} {c:Cli} (h:OkCl ns c) (hu:∀ j,Upon (nodAt ns j).u (nodAt ns' j).u):OkCl ns' c :=
 ⟨h.1,fun h1 h2=>by
  have e:=h.2 h1 h2
  have hk:=h.kind
  rw [(hu _).cell _ (by rw [e];omega)]
  exact e⟩
theorem setN_upon {w:Wor} {k:Nat} {n':Nod} (hk:k<w.n.length) (h4:Upon (nodAt w.n k).u n'.u):∀ j,Upon (nodAt w.n j).u (nodAt (setN w k n').n j).u:=fun j=>by
 show Upon _ (nodAt (w.n.set k n') j).u
 rw [nodAt_set hk]
 split
 · rename_i h;subst h;exact h4
 · exact Upon.rfl' _
theorem GoodW.setN {w:Wor} (h:GoodW w) {k:Nat} {n':Nod} (hk:k<3) (h1:(checkN n').2=0) (h2:0<k→fitC (nodAt w.n (k - 1)).u.cells (gr n').cells) (h4:Upon (nodAt w.n k).u n'.u):GoodW (setN w k n'):=by
 have hl:=h.n3
 have hu:=setN_upon (w:=w) (k:=k) (n':=n') (by omega) h4
 refine ⟨by simp [Go.Proofs.YtidlffepdcldkaaGreatDoor.setN,hl],h.c3,h.tip0,h.tip1,h.t0,h.t1,fun j hj=>?_,fun j hj=>?_,fun j hj=>(h.cli j hj).upon hu⟩
 · show (checkN (nodAt (w.n.set k n') j)).2=0
   rw [nodAt_set (by omega)]
   split
   · exact h1
   · exact h.node j hj
 · show fitC (nodAt (w.n.set k n') j).u.cells (gr (nodAt (w.n.set k n') (j+1))).cells
   have hf:=h.fit j hj
   by_cases e:j+1=k
   · subst e
     rw [nodAt_set (by omega),nodAt_set (by omega),if_neg (by omega),if_pos rfl]
     exact h2 (by omega)
   · rw [nodAt_set (j:=j+1) (by omega),if_neg e]
     exact hf.upon (hu j)
theorem GoodW.setC {w:Wor} (h:GoodW w) {i:Nat} {c':Cli} (hc:OkCl w.n c'):GoodW (setC w i c'):=by
 have hl:=h.c3
 refine ⟨h.n3,by simp [Go.Proofs.YtidlffepdcldkaaGreatDoor.setC,hl],h.tip0,h.tip1,h.t0,h.t1,h.node,h.fit,fun j hj=>?_⟩
 show OkCl w.n (cliAt (w.c.set i c') j)
 by_cases hi:i<w.c.length
 · rw [cliAt_set hi]
   split
   · exact hc
   · exact h.cli j hj
 · rw [List.set_eq_of_length_le (by omega)]
   exact h.cli j hj
theorem GoodW.chain {w:Wor} (h:GoodW w):GoodC (unitsN w.n):=by
 have hn:=h.node;have hf:=h.fit
 obtain ⟨a,b,c,e⟩:=len3 h.n3
 rw [e] at hn hf ⊢
 obtain ⟨la,ma,ia⟩:=checkN_inv (hn 0 (by omega))
 obtain ⟨lb,mb,ib⟩:=checkN_inv (hn 1 (by omega))
 obtain ⟨lc,mc,ic⟩:=checkN_inv (hn 2 (by omega))
 have fb:=hf 0 (by omega);have fc:=hf 1 (by omega)
 have down:∀ {p u g:Uni},fitC p.cells g.cells→Upon u g→fitC p.cells u.cells:=fun {p u g} h hu k hk=>by
  by_cases h4:(cellAt u.cells k).kind=4
  · exact .inl h4
  · have e:=hu.cell k h4
    rcases h k hk with e1 | e1
    · rw [e] at e1;exact absurd e1 h4
    · exact .inr (e1.trans e)
 exact good3 ia.good.1 ib.good.1 ic.good.1 (down fb ib.upon) (down fc ic.upon)
theorem GoodW.new:GoodW newW:=by
 have hn:NodI newN [] [] newU:=Holds.new.nodI true
 have hc:(checkN newN).2=0:=by rw [hn.chkN]
 have hg:gr newN=newU:=by unfold gr;rw [hn.chkN]
 refine ⟨rfl,rfl,by decide,by decide,by decide,by decide,fun k hk=>?_,fun k hk=>?_,fun k hk=>?_⟩
 · rcases lt3 hk with rfl | rfl | rfl <;> exact hc
 · have:fitC newU.cells newU.cells:=fun _ _=>.inr rfl
   rcases (by omega:k=0∨k=1) with rfl | rfl
   · show fitC newU.cells (gr newN).cells;rw [hg];exact this
   · show fitC newU.cells (gr newN).cells;rw [hg];exact this
 · have h1:checkCl newCl=0:=by decide
   have:OkCl newW.n newCl:=⟨h1,fun h=>by simp [newCl] at h⟩
   rcases lt3 hk with rfl | rfl | rfl <;> exact this
end
section
theorem link_inv {w : Wor} {x : Hap} (h : GoodW w) (hi : x.client.toNat < 3) (hx : (linkW w x).2 = 0) :
    ∃ (i k a:Nat) (c:Cli) (n:Nod) (r:Rec),i=x.client.toNat∧c=cliAt w.c i∧c.doing=2∧c.link=k∧k<3∧n=nodAt w.n k∧n.up=true∧c.at_=a∧a<60∧checkE c.e=0∧c.epoch=n.u.ep ∧
     (0<k→cellAt (nodAt w.n (k - 1)).u.cells a=c.e)∧r=⟨1,a,0,c.e⟩ ∧
     (((cellAt n.u.cells a).kind≠4∧x.kind≠15∧((x.kind=5∧(linkW w x).1=w)∨(x.kind≠5∧(heardCl c (cellAt n.u.cells a)).2=0∧(linkW w x).1=setC w i (heardCl c (cellAt n.u.cells a)).1))) ∨
      ((cellAt n.u.cells a).kind=4∧nextU n.u r=(putU n.u a c.e,0) ∧
       ((x.kind=15∧(linkW w x).1=setN w k (tearN n r x.n).1)∨(x.kind=5∧(linkW w x).1=setN w k (writeN n r).1)∨(x.kind≠15∧x.kind≠5∧(heardCl c c.e).2=0∧(linkW w x).1=setC (setN w k (writeN n r).1) i (heardCl c c.e).1)))):=by
 obtain ⟨i,hii⟩:∃ i,i=x.client.toNat:=⟨_,rfl⟩
 obtain ⟨c,hc⟩:∃ c,c=cliAt w.c i:=⟨_,rfl⟩
 have hcl:OkCl w.n c:=by rw [hc];exact h.cli i (by omega)
 have hci:=checkCl_iff.1 hcl.1
 obtain ⟨k,hk⟩:∃ k:Nat,c.link=k:=⟨c.link.toNat,by omega⟩
 obtain ⟨a,ha⟩:∃ a:Nat,c.at_=a:=⟨c.at_.toNat,by omega⟩
 have hk3:k<3:=by omega
 have ha6:a<60:=by omega
 obtain ⟨n,hn⟩:∃ n,n=nodAt w.n k:=⟨_,rfl⟩
 unfold linkW at hx ⊢
 rw [← hii,← hc,hk,ha,Int.toNat_natCast,← hn] at hx ⊢
 by_cases h1:c.doing≠2
 · rw [if_pos h1] at hx;cases hx
 · rw [if_neg h1] at hx ⊢
   by_cases h2:n.up=false
   · rw [if_pos h2] at hx;cases hx
   · rw [if_neg h2] at hx ⊢
     have hup:n.up=true:=by simpa using h2
     obtain ⟨q,hq⟩:∃ q,q=linkC (unitsN w.n) (k:Int) (a:Int) c.e c.epoch:=⟨_,rfl⟩
     rw [← hq] at hx ⊢
     unfold linkQ at hx ⊢
     rw [hk,Int.toNat_natCast,← hii] at hx ⊢
     by_cases h3:q.2.2≠0
     · rw [if_pos h3] at hx;exact absurd hx h3
     · rw [if_neg h3] at hx ⊢
       have h3:=Decidable.not_not.1 h3
       obtain ⟨r,s,e⟩:=q
       dsimp only at h3 hx ⊢
       subst h3
       obtain ⟨_,_,_,_,_,he,hep,hfr,hcase⟩:=link_ok hq.symm
       simp only [Int.toNat_natCast,uniAt_units] at hep hfr hcase
       rw [← hn] at hep hcase
       obtain ⟨l,m,hI⟩:=checkN_inv (h.node k hk3)
       rw [← hn] at hI
       refine ⟨i,k,a,c,n,⟨1,a,0,c.e⟩,rfl,hc,Decidable.not_not.1 h1,hk,hk3,hn,hup,ha,ha6,he,hep,fun h0=>hfr (by omega),rfl,?_⟩
       rcases hcase with ⟨rfl,rfl,h4⟩ | ⟨rfl,rfl,h4⟩
       · left
         by_cases h5:x.kind=15
         · rw [if_pos h5] at hx
           have:(tearN n zeroR x.n).2=6:=by unfold tearN;rw [if_pos (show zeroR.kind=0 from rfl)]
           dsimp only at hx;omega
         · have hz:¬ zeroR.kind≠0:=by simp [zeroR]
           rw [if_neg h5,if_neg (fun h=>hz h.1)] at hx ⊢
           refine ⟨h4,h5,?_⟩
           by_cases h6:x.kind=5
           · rw [if_pos h6]
             exact .inl ⟨h6,by dsimp only;exact if_neg hz⟩
           · rw [if_neg h6] at hx ⊢
             by_cases h7:(heardCl c (cellAt n.u.cells a)).2≠0
             · rw [if_pos h7] at hx;exact absurd hx h7
             · rw [if_neg h7,if_neg hz]
               exact .inr ⟨h6,Decidable.not_not.1 h7,rfl⟩
       · right
         have hnx:nextU n.u ⟨1,a,0,c.e⟩=(putU n.u a c.e,0):=next_put hI.good.1 ha6 he h4
         refine ⟨h4,hnx,?_⟩
         by_cases h5:x.kind=15
         · rw [if_pos h5]
           exact .inl ⟨h5,rfl⟩
         · rw [if_neg h5] at hx ⊢
           by_cases h8:(1:Int)≠0∧(writeN n ⟨1,a,0,c.e⟩).2≠0
           · dsimp only at hx
             rw [if_pos h8] at hx;exact absurd hx h8.2
           · dsimp only at hx ⊢
             rw [if_neg h8] at hx ⊢
             right
             by_cases h6:x.kind=5
             · rw [if_pos h6]
               exact .inl ⟨h6,by dsimp only;exact if_pos (by decide)⟩
             · rw [if_neg h6] at hx ⊢
               by_cases h7:(heardCl c c.e).2≠0
               · rw [if_pos h7] at hx;exact absurd hx h7
               · rw [if_neg h7,if_pos (by decide)]
                 exact .inr ⟨h5,h6,Decidable.not_not.1 h7,rfl⟩
structure NStep (n n':Nod):Prop where
 ok:(checkN n').2=0
 up:Upon n.u n'.u
theorem happen_inv {w : Wor} {x : Hap} (hx : (happenW w x).2 = 0) :
    (x.kind=10∧0≤x.n∧x.n≤60∧(happenW w x).1=⟨w.n,x.n,w.c,w.time⟩) ∨
    (x.kind=11∧1≤x.n∧x.n≤100000 - w.time∧(happenW w x).1=⟨w.n,w.tip,w.c,w.time+x.n⟩) ∨
    (∃ k:Nat,k<3∧x.n=k ∧
     ((x.kind=12∧(nodAt w.n k).up=true∧(happenW w x).1=setN w k ⟨(nodAt w.n k).u,(nodAt w.n k).d,false⟩) ∨
      (x.kind=13∧(nodAt w.n k).up=false∧(bootN (nodAt w.n k)).2=0∧(happenW w x).1=setN w k (bootN (nodAt w.n k)).1) ∨
      (x.kind=8∧(nodAt w.n k).up=true∧(writeN (nodAt w.n k) ⟨2,0,x.epoch,zeroE⟩).2=0∧(happenW w x).1=setN w k (writeN (nodAt w.n k) ⟨2,0,x.epoch,zeroE⟩).1) ∨
      (x.kind=9∧(nodAt w.n k).up=true∧∃ i:Nat,i<3∧x.client=i∧(learnCl (cliAt w.c i) (nodAt w.n k).u.ep).2=0∧(happenW w x).1=setC w i (learnCl (cliAt w.c i) (nodAt w.n k).u.ep).1))) ∨
    (∃ i:Nat,i<3∧x.client=i ∧
     (((x.kind=4∨x.kind=5∨x.kind=15)∧(linkW w x).2=0∧(happenW w x).1=(linkW w x).1) ∨
      (x.kind=1∧x.e.kind≠3∧(wantCl (cliAt w.c i) x.e).2=0∧(happenW w x).1=setC w i (wantCl (cliAt w.c i) x.e).1) ∨
      (x.kind=2∧(ringCl (cliAt w.c i) i x.job w.time).2=0∧(happenW w x).1=setC w i (ringCl (cliAt w.c i) i x.job w.time).1) ∨
      (x.kind=3∧w.tip≠60∧(placeCl (cliAt w.c i) w.tip).2=0∧(happenW w x).1=⟨w.n,w.tip+1,w.c.set i (placeCl (cliAt w.c i) w.tip).1,w.time⟩) ∨
      (x.kind=6∧(fillCl (cliAt w.c i) x.n).2=0∧(happenW w x).1=setC w i (fillCl (cliAt w.c i) x.n).1) ∨
      (x.kind=7∧(nextPl w (cliAt w.c i)).2=0∧(happenW w x).1=setC w i (nextPl w (cliAt w.c i)).1) ∨
      (x.kind=14∧(happenW w x).1=setC w i newCl))):=by
 have put:∀ {k:Nat} {r:Cli × Int},(putCl w k r).2=0→r.2=0∧(putCl w k r).1=setC w k r.1:=fun {k r} h=>by
  unfold putCl at h ⊢
  by_cases h1:r.2≠0
  · rw [if_pos h1] at h;exact absurd h h1
  · rw [if_neg h1];exact ⟨Decidable.not_not.1 h1,rfl⟩
 unfold happenW at hx ⊢
 by_cases h1:x.kind<1∨15<x.kind
 · rw [if_pos h1] at hx;cases hx
 · rw [if_neg h1] at hx ⊢
   by_cases h2:x.kind=8∨x.kind=9∨x.kind=12∨x.kind=13
   · rw [if_pos h2] at hx ⊢
     right;right;left
     unfold ofUnitW at hx ⊢
     by_cases h3:x.n<0∨3≤x.n
     · rw [if_pos h3] at hx;cases hx
     · rw [if_neg h3] at hx ⊢
       obtain ⟨k,hk⟩:∃ k:Nat,x.n=k:=⟨x.n.toNat,by omega⟩
       refine ⟨k,by omega,hk,?_⟩
       unfold powerW at hx ⊢
       rw [hk,Int.toNat_natCast] at hx ⊢
       by_cases h4:x.kind=12∨x.kind=13
       · rw [if_pos h4] at hx ⊢
         by_cases h5:(nodAt w.n k).up=decide (x.kind=13)
         · rw [if_pos h5] at hx;cases hx
         · rw [if_neg h5] at hx ⊢
           by_cases h6:x.kind=12
           · rw [if_pos h6]
             exact .inl ⟨h6,by simpa [h6] using h5,rfl⟩
           · rw [if_neg h6] at hx ⊢
             have h7:x.kind=13:=by omega
             exact .inr (.inl ⟨h7,by simpa [h7] using h5,hx,rfl⟩)
       · rw [if_neg h4] at hx ⊢
         right;right
         by_cases h5:(nodAt w.n k).up=false
         · rw [if_pos h5] at hx;cases hx
         · rw [if_neg h5] at hx ⊢
           have hup:(nodAt w.n k).up=true:=by simpa using h5
           by_cases h6:x.kind=8
           · rw [if_pos h6] at hx ⊢
             exact .inl ⟨h6,hup,hx,rfl⟩
           · rw [if_neg h6] at hx ⊢
             right
             by_cases h7:x.client<0∨3≤x.client
             · rw [if_pos h7] at hx;cases hx
             · rw [if_neg h7] at hx ⊢
               obtain ⟨i,hi⟩:∃ i:Nat,x.client=i:=⟨x.client.toNat,by omega⟩
               rw [hi,Int.toNat_natCast] at hx ⊢
               obtain ⟨g1,g2⟩:=put hx
               exact ⟨by omega,hup,i,by omega,rfl,g1,g2⟩
   · rw [if_neg h2] at hx ⊢
     by_cases h3:x.kind=10
     · rw [if_pos h3] at hx ⊢
       by_cases h4:x.n<0∨60<x.n
       · rw [if_pos h4] at hx;cases hx
       · rw [if_neg h4]
         exact .inl ⟨h3,by omega,by omega,rfl⟩
     · rw [if_neg h3] at hx ⊢
       by_cases h4:x.kind=11
       · rw [if_pos h4] at hx ⊢
         by_cases h5:x.n<1∨100000 - w.time<x.n
         · rw [if_pos h5] at hx;cases hx
         · rw [if_neg h5]
           exact .inr (.inl ⟨h4,by omega,by omega,rfl⟩)
       · rw [if_neg h4] at hx ⊢
         right;right;right
         unfold ofClientW at hx ⊢
         by_cases h5:x.client<0∨3≤x.client
         · rw [if_pos h5] at hx;cases hx
         · rw [if_neg h5] at hx ⊢
           obtain ⟨i,hi⟩:∃ i:Nat,x.client=i:=⟨x.client.toNat,by omega⟩
           refine ⟨i,by omega,hi,?_⟩
           have ht:x.client.toNat=i:=by omega
           rw [ht] at hx ⊢
           by_cases k4:x.kind=4∨x.kind=5∨x.kind=15
           · rw [if_pos k4] at hx ⊢
             exact .inl ⟨k4,hx,rfl⟩
           · rw [if_neg k4] at hx ⊢
             right
             by_cases k1:x.kind=1
             · rw [if_pos k1] at hx ⊢
               by_cases h6:x.e.kind=3
               · rw [if_pos h6] at hx;cases hx
               · rw [if_neg h6] at hx ⊢
                 obtain ⟨g1,g2⟩:=put hx
                 exact .inl ⟨k1,h6,g1,g2⟩
             · rw [if_neg k1] at hx ⊢
               right
               by_cases k2:x.kind=2
               · rw [if_pos k2,hi] at hx ⊢
                 obtain ⟨g1,g2⟩:=put hx
                 exact .inl ⟨k2,g1,g2⟩
               · rw [if_neg k2] at hx ⊢
                 right
                 by_cases k3:x.kind=3
                 · rw [if_pos k3] at hx ⊢
                   by_cases h6:w.tip=60
                   · rw [if_pos h6] at hx;cases hx
                   · rw [if_neg h6] at hx ⊢
                     by_cases h7:(placeCl (cliAt w.c i) w.tip).2≠0
                     · rw [if_pos h7] at hx;exact absurd hx h7
                     · rw [if_neg h7]
                       exact .inl ⟨k3,h6,Decidable.not_not.1 h7,rfl⟩
                 · rw [if_neg k3] at hx ⊢
                   right
                   by_cases k6:x.kind=6
                   · rw [if_pos k6] at hx ⊢
                     obtain ⟨g1,g2⟩:=put hx
                     exact .inl ⟨k6,g1,g2⟩
                   · rw [if_neg k6] at hx ⊢
                     right
                     by_cases k7:x.kind=7
                     · rw [if_pos k7] at hx ⊢
                       obtain ⟨g1,g2⟩:=put hx
                       exact .inl ⟨k7,g1,g2⟩
                     · rw [if_neg k7]
                       exact .inr ⟨by omega,rfl⟩
end
end Go.Proofs.YtidlffepdcldkaaGreatDoor
