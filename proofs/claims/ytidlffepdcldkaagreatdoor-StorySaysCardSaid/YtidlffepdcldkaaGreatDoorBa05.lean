/- Part 5 of the proof: Disk, SpecR, LawK, SpecCl, SpecC, SpecW, LawC. -/
import Derived.Test.YtidlffepdcldkaaGreatDoorBa03
import Derived.Test.YtidlffepdcldkaaGreatDoorBa02
namespace Go.Proofs.YtidlffepdcldkaaGreatDoor
set_option linter.unusedSimpArgs false
set_option linter.unusedVariables false
section
structure Dsk where
 safe:List UInt8
 wait:List UInt8
 deriving DecidableEq,Inhabited
def noK:Dsk:=⟨[],[]⟩
def linesK (s:List UInt8) (most:Nat):List Rec × Nat × Int:=linesP parseR most [] 0 (cutc 10 s)
def checkK (d:Dsk):Int:=if 30000<d.safe.length∨30000<d.safe.length+d.wait.length then 2 else (linesK d.safe 160).2.2
def putK (d:Dsk) (r:Rec):Dsk × Int :=
 if checkK d≠0 then (noK,checkK d) else if (printR r).2≠0 then (noK,(printR r).2)
 else if 30000<d.safe.length+d.wait.length+((printR r).1.length+1) then (noK,2) else (⟨d.safe,d.wait ++(printR r).1 ++[10]⟩,0)
def syncK (d:Dsk):Dsk × Int :=
 if checkK d≠0 then (noK,checkK d) else if checkK ⟨d.safe ++d.wait,[]⟩≠0 then (noK,checkK ⟨d.safe ++d.wait,[]⟩) else (⟨d.safe ++d.wait,[]⟩,0)
def crashK (d:Dsk) (n:Int):Dsk × Int :=
 if checkK d≠0 then (noK,checkK d) else if n<0∨(d.wait.length:Int)<n then (noK,3) else (⟨d.safe,d.wait.take n.toNat⟩,0)
def recsK (d:Dsk):List Rec:=(linesK d.safe 160).1 ++(linesK d.wait (160 - (linesK d.safe 160).1.length)).1
def backK (d:Dsk):Dsk:=⟨d.safe ++d.wait.take (linesK d.wait (160 - (linesK d.safe 160).1.length)).2.1,[]⟩
def recoverK (d:Dsk):Dsk × List Rec × Int:=if checkK d≠0 then (noK,[],checkK d) else (backK d,recsK d,0)
def OkRs (l:List Rec):Prop:=∀ x∈l,checkR x=0
theorem OkRs.app {l m:List Rec} (h:OkRs l) (h':OkRs m):OkRs (l ++m):=fun x hx=>by
 rcases List.mem_append.1 hx with hx | hx
 · exact h x hx
 · exact h' x hx
theorem OkRs.one {r:Rec} (h:checkR r=0):OkRs [r]:=fun x hx=>by rw [List.mem_singleton.1 hx];exact h
abbrev txt (l:List Rec):List UInt8:=textP textR l
theorem txt_len {l:List Rec} (h:OkRs l):(txt l).length≤101*l.length:=textRs_len h
theorem txt_app (l m:List Rec):txt (l ++m)=txt l ++txt m:=textP_append _ _ _
theorem linesK_text {l:List Rec} {most:Nat} (s:List UInt8) (h:OkRs l) (hm:l.length≤most):linesK (txt l ++s) most=linesP parseR most l (txt l).length (cutc 10 s):=by
 unfold linesK
 rw [cut_textP s (fun x hx=>textR_no (h x hx)),linesP_text (cutc_ne _ _) (fun x hx=>parse_textR (h x hx)) (by simpa using hm)]
 simp
theorem linesK_part {l:List Rec} {most:Nat} {s:List UInt8} (h:OkRs l) (hm:l.length≤most) (hs:(10:UInt8)∉s):linesK (txt l ++s) most=(l,(txt l).length,if s=[] then 0 else 9):=by
 rw [linesK_text s h hm,cutc_self hs,linesP_one]
theorem linesK_all {l:List Rec} {most:Nat} (h:OkRs l) (hm:l.length≤most):linesK (txt l) most=(l,(txt l).length,0):=by
 have:=linesK_part (s:=[]) h hm (by simp)
 simpa using this
theorem linesK_read (s:List UInt8) (most:Nat):OkRs (linesK s most).1∧(linesK s most).1.length≤most∧(linesK s most).2.1=(txt (linesK s most).1).length∧s.take (linesK s most).2.1=txt (linesK s most).1∧((linesK s most).2.2=0→s=txt (linesK s most).1):=by
 obtain ⟨l',t,h1,h2,h3,h4,h5,h6⟩:=linesP_read (ok:=fun x=>checkR x=0) (text:=textR) (fun t x hx=>parseR_ok hx) (cutc_ne 10 s) (Prod.ext rfl (Prod.ext rfl rfl):linesP parseR most [] 0 (cutc 10 s)=((linesP parseR most [] 0 (cutc 10 s)).1,(linesP parseR most [] 0 (cutc 10 s)).2.1,(linesP parseR most [] 0 (cutc 10 s)).2.2)) (by simp)
 rw [List.nil_append] at h1
 rw [joinc_cutc] at h5
 rw [Nat.zero_add] at h4
 have e:(linesK s most).1=l':=h1
 have e2:(linesK s most).2.1=(txt l').length:=h4
 refine ⟨by rw [e];exact h3,h2,by rw [e];exact e2,?_,fun h=>?_⟩
 · rw [e,e2,h5];simp
 · rw [e];rw [h5,h6 h];simp
theorem checkK_iff {d:Dsk}:checkK d=0↔d.safe.length+d.wait.length≤30000∧∃ l,OkRs l∧l.length≤160∧d.safe=txt l:=by
 unfold checkK
 constructor
 · intro h
   split at h
   · cases h
   · obtain ⟨h1,h2,_,_,h3⟩:=linesK_read d.safe 160
     exact ⟨by omega,_,h1,h2,h3 h⟩
 · rintro ⟨h,l,h1,h2,h3⟩
   rw [if_neg (by omega),h3,linesK_all h1 h2]
theorem recover_good {d:Dsk} (h:checkK d=0):∃ l m,OkRs l∧OkRs m∧d.safe=txt l∧d.wait.take (txt m).length=txt m∧(l ++m).length≤160∧recoverK d=(⟨txt (l ++m),[]⟩,l ++m,0)∧(linesK d.safe 160).1=l:=by
 obtain ⟨h0,l,h1,h2,h3⟩:=checkK_iff.1 h
 have e:=linesK_all h1 h2
 obtain ⟨g1,g2,g3,g4,_⟩:=linesK_read d.wait (160 - l.length)
 refine ⟨l,(linesK d.wait (160 - l.length)).1,h1,g1,h3,by rw [← g3];exact g4,by rw [List.length_append];omega,?_,by rw [h3,e]⟩
 unfold recoverK backK recsK
 rw [if_neg (by simp [h]),h3,e]
 simp only
 rw [g4,txt_app]
theorem recover_safe {l:List Rec} (h:OkRs l) (hl:l.length≤160) (hs:(txt l).length≤30000):recoverK ⟨txt l,[]⟩=(⟨txt l,[]⟩,l,0):=by
 have hc:checkK ⟨txt l,[]⟩=0:=checkK_iff.2 ⟨by simpa using hs,l,h,hl,rfl⟩
 unfold recoverK backK recsK
 rw [if_neg (by simp [hc])]
 dsimp only
 rw [linesK_all h hl]
 simp [linesK,cutc,linesP]
theorem printR_ok {r:Rec} (h:checkR r=0):printR r=(textR r,0):=by unfold printR;rw [if_neg (by simp [h])]
end
section
def unitGo (u:Uni):List Rec→Uni × Int
 | []=>(u,0)
 | r ::l=>if (nextU u r).2≠0 then (⟨0,[]⟩,(nextU u r).2) else unitGo (nextU u r).1 l
def unitL (l:List Rec):Uni × Int:=if 160<l.length then (⟨0,[]⟩,2) else unitGo newU l
theorem unitGo_at {u:Uni} {l:List Rec} {k:Nat} {x:Rec} (hx:l[k]?=some x):unitGo u (l.drop k)=if (nextU u x).2≠0 then (⟨0,[]⟩,(nextU u x).2) else unitGo (nextU u x).1 (l.drop (k+1)):=by
 obtain ⟨hk,rfl⟩:=List.getElem?_eq_some_iff.1 hx
 rw [List.drop_eq_getElem_cons hk]
 rfl
theorem unitGo_cons {u:Uni} {r:Rec} {l:List Rec} (h:(nextU u r).2=0):unitGo u (r ::l)=unitGo (nextU u r).1 l:=by
 rw [unitGo,if_neg (by simp [h])]
theorem unitGo_append:∀ {l m:List Rec} {u v:Uni},unitGo u l=(v,0)→unitGo u (l ++m)=unitGo v m
 | [],m,u,v,h=>by simp only [unitGo,Prod.mk.injEq,and_true] at h;rw [h];rfl
 | r ::l,m,u,v,h=>by
   rw [unitGo] at h
   split at h
   · rename_i hb;simp only [Prod.mk.injEq] at h;exact absurd h.2 hb
   · rename_i hb
     rw [List.cons_append,unitGo_cons (Decidable.not_not.1 hb)]
     exact unitGo_append h
structure Upon (u v:Uni):Prop where
 ep:u.ep≤v.ep
 len:v.cells.length=u.cells.length
 cell:∀ k,(cellAt u.cells k).kind≠4→cellAt v.cells k=cellAt u.cells k
theorem Upon.rfl' (u:Uni):Upon u u:=⟨Int.le_refl _,rfl,fun _ _=>rfl⟩
theorem Upon.trans {u v x:Uni} (h:Upon u v) (h':Upon v x):Upon u x :=
 ⟨Int.le_trans h.ep h'.ep,h'.len.trans h.len,fun k hk=>(h'.cell k (by rw [h.cell k hk];exact hk)).trans (h.cell k hk)⟩
theorem cellAt_put {cs:List Entry} {a k:Nat} {x:Entry}:cellAt (cs.set a x) k=if a=k∧a<cs.length then x else cellAt cs k:=by
 unfold cellAt
 rw [List.getElem?_set]
 by_cases h:a=k
 · subst h
   by_cases h2:a<cs.length
   · simp [h2]
   · simp [h2]
 · simp [h]
theorem nextU_write {u:Uni} {r:Rec} (h:(nextU u r).2=0) (hk:r.kind≠2):nextU u r=(⟨u.ep,u.cells.set r.at_.toNat r.e⟩,0)∧(cellAt u.cells r.at_.toNat).kind=4∧r.at_.toNat<60∧0≤r.at_∧r.kind=1∧checkE r.e=0:=by
 obtain ⟨hg,hr,_⟩:=nextU_good h
 have h1:=checkU_iff.2 hg
 obtain ⟨e1,e2,e3,_,e4⟩:=checkR_write hr hk
 unfold nextU at h ⊢
 rw [if_neg (by simp [h1]),if_neg (by simp [hr]),if_neg hk] at h ⊢
 split at h
 · cases h
 · rename_i hc
   rw [if_neg hc]
   exact ⟨rfl,Decidable.not_not.1 hc,by omega,e2,e1,e4⟩
theorem nextU_seal {u:Uni} {r:Rec} (h:(nextU u r).2=0) (hk:r.kind=2):nextU u r=(⟨r.epoch,u.cells⟩,0)∧u.ep<r.epoch∧r.epoch≤20:=by
 obtain ⟨hg,hr,_⟩:=nextU_good h
 have h1:=checkU_iff.2 hg
 obtain ⟨e1,e2,_,_⟩:=checkR_seal hr hk
 unfold nextU at h ⊢
 rw [if_neg (by simp [h1]),if_neg (by simp [hr]),if_pos hk] at h ⊢
 split at h
 · cases h
 · rename_i hc
   rw [if_neg hc]
   exact ⟨rfl,by omega,e2⟩
theorem nextU_upon {u:Uni} {r:Rec} (h:(nextU u r).2=0):Upon u (nextU u r).1:=by
 by_cases hk:r.kind=2
 · obtain ⟨e,h1,_⟩:=nextU_seal h hk
   rw [e]
   exact ⟨by dsimp only;omega,rfl,fun _ _=>rfl⟩
 · obtain ⟨e,h1,h2,h3,_⟩:=nextU_write h hk
   rw [e]
   refine ⟨Int.le_refl _,by simp,fun k hc=>?_⟩
   dsimp only
   rw [cellAt_put,if_neg]
   rintro ⟨rfl,_⟩
   exact hc h1
theorem unitGo_upon:∀ {l:List Rec} {u v:Uni},unitGo u l=(v,0)→Upon u v
 | [],u,v,h=>by simp only [unitGo,Prod.mk.injEq,and_true] at h;subst h;exact Upon.rfl' _
 | r ::l,u,v,h=>by
   rw [unitGo] at h
   split at h
   · rename_i hb;simp only [Prod.mk.injEq] at h;exact absurd h.2 hb
   · rename_i hb
     exact (nextU_upon (Decidable.not_not.1 hb)).trans (unitGo_upon h)
theorem unitGo_good:∀ {l:List Rec} {u v:Uni},GoodU u.ep u.cells→unitGo u l=(v,0)→GoodU v.ep v.cells
 | [],u,v,hu,h=>by simp only [unitGo,Prod.mk.injEq,and_true] at h;subst h;exact hu
 | r ::l,u,v,hu,h=>by
   rw [unitGo] at h
   split at h
   · rename_i hb;simp only [Prod.mk.injEq] at h;exact absurd h.2 hb
   · rename_i hb
     exact unitGo_good (nextU_good (Decidable.not_not.1 hb)).2.2 h
def blanks (cs:List Entry):Nat:=cs.countP (fun c=>decide (c.kind=4))
theorem countP_set {α:Type} {p:α→Bool}:∀ {l:List α} {k:Nat} {x y:α},l[k]?=some y→p y=true→p x=false→(l.set k x).countP p+1=l.countP p
 | [],k,x,y,h,_,_=>by simp at h
 | a ::l,0,x,y,h,h1,h2=>by
   simp at h;subst h
   rw [List.set_cons_zero,List.countP_cons_of_neg (by simp [h2]),List.countP_cons_of_pos h1]
 | a ::l,k+1,x,y,h,h1,h2=>by
   have ih:=countP_set (l:=l) (k:=k) (x:=x) (y:=y) (by simpa using h) h1 h2
   rw [List.set_cons_succ]
   by_cases ha:p a=true
   · rw [List.countP_cons_of_pos ha,List.countP_cons_of_pos ha];omega
   · rw [List.countP_cons_of_neg ha,List.countP_cons_of_neg ha];omega
theorem unitGo_few:∀ {l:List Rec} {u v:Uni},unitGo u l=(v,0)→(l.length:Int)+blanks v.cells+u.ep≤blanks u.cells+v.ep
 | [],u,v,h=>by simp only [unitGo,Prod.mk.injEq,and_true] at h;subst h;simp
 | r ::l,u,v,h=>by
   rw [unitGo] at h
   split at h
   · rename_i hb;simp only [Prod.mk.injEq] at h;exact absurd h.2 hb
   · rename_i hb
     have hb:=Decidable.not_not.1 hb
     have ih:=unitGo_few h
     rw [List.length_cons]
     by_cases hk:r.kind=2
     · obtain ⟨e,h1,_⟩:=nextU_seal hb hk
       rw [e] at ih
       dsimp only at ih
       omega
     · obtain ⟨e,h1,h2,h3,_,h4⟩:=nextU_write hb hk
       have hl:=(nextU_good hb).1.len
       rw [e] at ih
       dsimp only at ih
       have hx:u.cells[r.at_.toNat]?=some u.cells[r.at_.toNat]:=List.getElem?_eq_getElem (by omega)
       have hc:=cellAt_eq hx
       rw [hc] at h1
       have:=checkE_kd h4
       have:=countP_set (p:=fun c=>decide (c.kind=4)) (x:=r.e) hx (by simpa using h1) (by simp;omega)
       unfold blanks at ih ⊢
       omega
theorem unitL_go {l:List Rec} {v:Uni} (h:unitL l=(v,0)):unitGo newU l=(v,0):=by
 unfold unitL at h
 split at h
 · simp at h
 · exact h
theorem unitGo_new_few {l:List Rec} {v:Uni} (h:unitGo newU l=(v,0)):l.length≤79:=by
 have h1:=unitGo_few h
 have h2:=(unitGo_good GoodU.new h).e2
 have h3:blanks newU.cells=60:=by decide
 rw [h3] at h1
 simp only [newU] at h1
 omega
theorem unitL_of {l:List Rec} {v:Uni} (h:unitGo newU l=(v,0)):unitL l=(v,0):=by
 have:=unitGo_new_few h
 unfold unitL
 rw [if_neg (by omega),h]
theorem unitL_good {l:List Rec} {v:Uni} (h:unitL l=(v,0)):GoodU v.ep v.cells:=unitGo_good GoodU.new (unitL_go h)
theorem unitL_few {l:List Rec} {v:Uni} (h:unitL l=(v,0)):l.length≤79:=unitGo_new_few (unitL_go h)
theorem unitGo_recs:∀ {l:List Rec} {u v:Uni},unitGo u l=(v,0)→∀ r∈l,checkR r=0
 | [],u,v,h,r,hr=>by simp at hr
 | r ::l,u,v,h,x,hx=>by
   rw [unitGo] at h
   split at h
   · rename_i hb;simp only [Prod.mk.injEq] at h;exact absurd h.2 hb
   · rename_i hb
     rcases List.mem_cons.1 hx with rfl | hx
     · exact (nextU_good (Decidable.not_not.1 hb)).2.1
     · exact unitGo_recs h x hx
theorem unitL_snoc {l:List Rec} {u:Uni} {r:Rec} (h:unitL l=(u,0)) (hr:(nextU u r).2=0):unitL (l ++[r])=((nextU u r).1,0):=by
 refine unitL_of ?_
 rw [unitGo_append (unitL_go h),unitGo_cons hr]
 rfl
end
section
theorem putK_ok {d:Dsk} {r:Rec} (h:checkK d=0) (hr:checkR r=0) (hs:d.safe.length+d.wait.length+(textR r).length+1≤30000):putK d r=(⟨d.safe,d.wait ++textR r ++[10]⟩,0):=by
 unfold putK
 rw [if_neg (by simp [h]),printR_ok hr,if_neg (by simp),if_neg (by dsimp only;omega)]
theorem checkK_of {l:List Rec} {t:List UInt8} (h:OkRs l) (hl:l.length≤160) (hs:(txt l).length+t.length≤30000):checkK ⟨txt l,t⟩=0:=checkK_iff.2 ⟨hs,l,h,hl,rfl⟩
theorem syncK_ok {l m:List Rec} (h:OkRs l) (h':OkRs m) (hl:(l ++m).length≤160) (hs:(txt l).length+(txt m).length≤30000):syncK ⟨txt l,txt m⟩=(⟨txt (l ++m),[]⟩,0):=by
 have h1:checkK ⟨txt l,txt m⟩=0:=checkK_of h (by rw [List.length_append] at hl;omega) hs
 have e:txt l ++txt m=txt (l ++m):=(textP_append _ _ _).symm
 have h2:checkK ⟨txt (l ++m),[]⟩=0:=checkK_of (h.app h') hl (by rw [← e,List.length_append];simpa using hs)
 unfold syncK
 rw [if_neg (by simp [h1])]
 dsimp only
 rw [e,if_neg (by simp [h2])]
theorem recover_part {l m : List Rec} {k : Nat} (h : OkRs l) (h' : OkRs m) (hl : (l ++ m).length ≤ 160) (hs : (txt l).length + (txt m).length ≤ 30000) (hk : k ≤ (txt m).length) :
    ∃ j,j≤m.length∧recoverK ⟨txt l,(txt m).take k⟩=(⟨txt (l ++m.take j),[]⟩,l ++m.take j,0)∧(k=(txt m).length→j=m.length):=by
 have hl1:l.length≤160:=by rw [List.length_append] at hl;omega
 have hc:checkK ⟨txt l,(txt m).take k⟩=0:=checkK_of h hl1 (by rw [List.length_take];omega)
 obtain ⟨j,s,h1,h2,h3,h4⟩:=textP_part (fun x hx=>textR_no (h' x hx)) hk
 have hj:OkRs (m.take j):=fun x hx=>h' x (List.mem_of_mem_take hx)
 have hjl:(m.take j).length=j:=by rw [List.length_take];omega
 have e:linesK ((txt m).take k) (160 - l.length)=(m.take j,(txt (m.take j)).length,if s=[] then 0 else 9):=by
  rw [← h3]
  exact linesK_part hj (by rw [hjl];rw [List.length_append] at hl;omega) h4
 refine ⟨j,h1,?_,fun hkm=>?_⟩
 · unfold recoverK backK recsK
   rw [if_neg (by simp [hc])]
   dsimp only
   rw [linesK_all h hl1]
   dsimp only
   rw [e]
   dsimp only
   have:((txt m).take k).take (txt (m.take j)).length=txt (m.take j):=by rw [← h3];simp
   rw [this,← textP_append]
 · subst hkm
   rw [List.take_length] at h2
   have h5:=cut_textP [] (fun x hx=>textR_no (h' x hx)) (text:=textR)
   rw [List.append_nil] at h5
   have h6:=congrArg List.length (h5.symm.trans h2)
   simp [cutc] at h6
   omega
/-! ### A unit,and its disk -/
structure Holds (u:Uni) (d:Dsk) (l:List Rec):Prop where
 unit:unitL l=(u,0)
 disk:d=⟨txt l,[]⟩
theorem Holds.ok {u:Uni} {d:Dsk} {l:List Rec} (h:Holds u d l):OkRs l:=unitGo_recs (unitL_go h.unit)
theorem Holds.few {u:Uni} {d:Dsk} {l:List Rec} (h:Holds u d l):l.length≤79:=unitL_few h.unit
theorem Holds.size {u:Uni} {d:Dsk} {l:List Rec} (h:Holds u d l):(txt l).length≤7979:=by
 have:=txt_len h.ok;have:=h.few;omega
theorem Holds.new:Holds newU noK []:=⟨rfl,rfl⟩
theorem Holds.put {u:Uni} {d:Dsk} {l:List Rec} {r:Rec} (h:Holds u d l) (hr:checkR r=0):putK d r=(⟨txt l,txt [r]⟩,0):=by
 have h1:=h.size
 have h2:=textR_len hr
 obtain ⟨h0,rfl⟩:=h
 rw [putK_ok (checkK_of (unitGo_recs (unitL_go h0)) (by have:=unitL_few h0;omega) (by simp;omega)) hr (by simp;omega)]
 simp [textP]
theorem Holds.next {u:Uni} {d:Dsk} {l:List Rec} {r:Rec} (h:Holds u d l) (hr:(nextU u r).2=0):∃ d1,putK d r=(d1,0)∧syncK d1=(⟨txt (l ++[r]),[]⟩,0)∧Holds (nextU u r).1 ⟨txt (l ++[r]),[]⟩ (l ++[r]):=by
 have hc:=(nextU_good hr).2.1
 refine ⟨_,h.put hc,?_,unitL_snoc h.unit hr,rfl⟩
 have h1:=h.size;have h2:=textR_len hc;have h3:=h.few
 have h4:=txt_len (OkRs.one hc)
 rw [List.length_singleton] at h4
 exact syncK_ok h.ok (OkRs.one hc) (by simp;omega) (by omega)
theorem Holds.back {u:Uni} {d:Dsk} {l:List Rec} (h:Holds u d l):recoverK d=(d,l,0):=by
 have h1:=h.size;have h2:=h.few;have h3:=h.ok
 rw [h.disk]
 exact recover_safe h3 (by omega) (by omega)
end
section
structure Cli where
 epoch:Int
 doing:Int
 e:Entry
 at_:Int
 link:Int
 played:Int
 b:Book
 deriving DecidableEq
def checkCl (c:Cli):Int :=
 if c.epoch<1∨20<c.epoch∨c.doing<0∨2<c.doing∨c.at_<0∨60≤c.at_∨c.link<0∨3≤c.link∨c.played<0∨60<c.played then 3
 else if checkE c.e≠0 then checkE c.e
 else if (c.doing≠2∧c.at_+c.link≠0)∨(c.doing=0∧c.e≠zeroE)∨(c.doing=1∧c.e.kind=0) then 4
 else checkB c.b
def restsCl (c:Cli):Int:=if checkCl c≠0 then checkCl c else if c.doing≠0 then 7 else 0
def zeroCl:Cli:=⟨0,0,zeroE,0,0,0,Book.none⟩
def learnCl (c:Cli) (v:Int):Cli × Int :=
 if checkCl c≠0 then (zeroCl,checkCl c) else if v<1∨20<v then (zeroCl,3) else if v≤c.epoch then (zeroCl,8) else (⟨v,c.doing,c.e,c.at_,c.link,c.played,c.b⟩,0)
def placeCl (c:Cli) (v:Int):Cli × Int :=
 if checkCl c≠0 then (zeroCl,checkCl c) else if c.doing≠1 then (zeroCl,7) else if v<0∨60≤v then (zeroCl,5) else (⟨c.epoch,2,c.e,v,c.link,c.played,c.b⟩,0)
def fillCl (c:Cli) (v:Int):Cli × Int :=
 if restsCl c≠0 then (zeroCl,restsCl c) else if v<0∨60≤v then (zeroCl,5) else (⟨c.epoch,2,c.e,v,c.link,c.played,c.b⟩,0)
def playCl (c:Cli) (y:Entry):Cli × Int :=
 if checkCl c≠0 then (zeroCl,checkCl c) else if c.played=60 then (zeroCl,2) else if (applyB c.b y).2≠0 then (zeroCl,(applyB c.b y).2)
 else (⟨c.epoch,c.doing,c.e,c.at_,c.link,c.played+1,(applyB c.b y).1⟩,0)
def wantCl (c:Cli) (y:Entry):Cli × Int :=
 if restsCl c≠0 then (zeroCl,restsCl c) else if checkE y≠0 then (zeroCl,checkE y) else if y.kind=0 then (zeroCl,4) else (⟨c.epoch,1,y,c.at_,c.link,c.played,c.b⟩,0)
def heardCl (c:Cli) (y:Entry):Cli × Int :=
 if checkCl c≠0 then (zeroCl,checkCl c) else if checkE y≠0 then (zeroCl,checkE y) else if c.doing≠2 then (zeroCl,7)
 else if y≠c.e∧c.e.kind≠0 then (⟨c.epoch,1,c.e,0,0,c.played,c.b⟩,0)
 else if c.link+1=3 then (⟨c.epoch,0,zeroE,0,0,c.played,c.b⟩,0)
 else (⟨c.epoch,c.doing,y,c.at_,c.link+1,c.played,c.b⟩,0)
def ringM (c:Cli) (me job t:Int):Cli × Int :=
 match c.b.jobs.find? (fun j=>decide (j.id=job)) with
 | some j=>if j.next≤t then wantCl c ⟨3,job,0,j.next,me⟩ else (zeroCl,5)
 | none=>(zeroCl,5)
def ringCl (c:Cli) (me job t:Int):Cli × Int :=
 if checkCl c≠0 then (zeroCl,checkCl c) else if c.doing≠0 then (zeroCl,7) else if t<0∨100000<t then (zeroCl,3) else ringM c me job t
end
section
def fitC (p u:List Entry):Prop:=∀ k,k<60→(cellAt u k).kind=4∨cellAt p k=cellAt u k
instance (p u : List Entry) : Decidable (fitC p u) := by unfold fitC; infer_instance
def chainL:Option Uni→List Uni→Int
 | _,[]=>0
 | o,u ::l=>if checkU u.ep u.cells≠0 then checkU u.ep u.cells else
   match o with
   | none=>chainL (some u) l
   | some p=>if fitC p.cells u.cells then chainL (some u) l else 4
def checkC (l:List Uni):Int:=if l.length≠3 then 4 else chainL none l
def aheadU (l:List Uni) (k:Nat):Option Uni:=match k with | 0=>none | k+1=>l[k]?
theorem chainL_at {o : Option Uni} {l : List Uni} {k : Nat} {u : Uni} (hx : l[k]? = some u) : chainL o (l.drop k) = if checkU u.ep u.cells ≠ 0 then checkU u.ep u.cells else
    match o with
    | none=>chainL (some u) (l.drop (k+1))
    | some p=>if fitC p.cells u.cells then chainL (some u) (l.drop (k+1)) else 4:=by
  obtain ⟨hk,rfl⟩:=List.getElem?_eq_some_iff.1 hx
  rw [List.drop_eq_getElem_cons hk]
  rfl
def zz:Rec × Entry × Int→Int→Rec × Entry × Int:=fun _ e=>(zeroR,zeroE,e)
def uniAt (l:List Uni) (k:Nat):Uni:=(l[k]?).getD ⟨0,[]⟩
theorem uniAt_eq {l:List Uni} {k:Nat} {x:Uni} (h:l[k]?=some x):uniAt l k=x:=by unfold uniAt;rw [h];rfl
def linkC (l:List Uni) (k at_:Int) (x:Entry) (epoch:Int):Rec × Entry × Int :=
 if checkC l≠0 then (zeroR,zeroE,checkC l)
 else if k<0∨3≤k∨at_<0∨60≤at_ then (zeroR,zeroE,5)
 else if checkE x≠0 then (zeroR,zeroE,checkE x)
 else if epoch≠(uniAt l k.toNat).ep then (zeroR,zeroE,8)
 else if 0<k∧cellAt (uniAt l (k.toNat - 1)).cells at_.toNat≠x then (zeroR,zeroE,7)
 else if (cellAt (uniAt l k.toNat).cells at_.toNat).kind≠4 then (zeroR,cellAt (uniAt l k.toNat).cells at_.toNat,0)
 else (⟨1,at_,0,x⟩,x,0)
def readC (l:List Uni) (at_:Int):Entry × Int :=
 if checkC l≠0 then (zeroE,checkC l)
 else if at_<0∨60≤at_ then (zeroE,5)
 else if (cellAt (uniAt l 2).cells at_.toNat).kind=4 then (zeroE,7)
 else (cellAt (uniAt l 2).cells at_.toNat,0)
structure GoodC (l:List Uni):Prop where
 len:l.length=3
 ok:∀ u∈l,GoodU u.ep u.cells
 fit:∀ (k:Nat) u v,l[k]?=some u→l[k+1]?=some v→fitC u.cells v.cells
theorem checkC_iff {l:List Uni}:checkC l=0↔GoodC l:=by
 unfold checkC
 constructor
 · intro h
   split at h
   · cases h
   · rename_i hl
     match l,(by omega:l.length=3) with
     | [a,b,c],_ =>
       simp only [chainL] at h
       by_cases ha:checkU a.ep a.cells=0
       · rw [if_neg (by simp [ha])] at h
         by_cases hb:checkU b.ep b.cells=0
         · rw [if_neg (by simp [hb])] at h
           by_cases hab:fitC a.cells b.cells
           · rw [if_pos hab] at h
             by_cases hc:checkU c.ep c.cells=0
             · rw [if_neg (by simp [hc])] at h
               by_cases hbc:fitC b.cells c.cells
               · refine ⟨rfl,?_,?_⟩
                 · intro u hu
                   simp at hu
                   rcases hu with rfl | rfl | rfl
                   · exact checkU_iff.1 ha
                   · exact checkU_iff.1 hb
                   · exact checkU_iff.1 hc
                 · intro k u v hu hv
                   match k,hu,hv with
                   | 0,hu,hv=>simp at hu hv;subst hu;subst hv;exact hab
                   | 1,hu,hv=>simp at hu hv;subst hu;subst hv;exact hbc
                   | k+2,hu,hv=>simp at hv
               · rw [if_neg hbc] at h;cases h
             · rw [if_pos hc] at h;exact absurd h hc
           · rw [if_neg hab] at h;cases h
         · rw [if_pos hb] at h;exact absurd h hb
       · rw [if_pos ha] at h;exact absurd h ha
 · intro h
   have hl:=h.len
   rw [if_neg (by omega)]
   match l,hl with
   | [a,b,c],_ =>
     have ha:=checkU_iff.2 (h.ok a (by simp));have hb:=checkU_iff.2 (h.ok b (by simp));have hc:=checkU_iff.2 (h.ok c (by simp))
     have hab:=h.fit 0 a b rfl rfl;have hbc:=h.fit 1 b c rfl rfl
     simp [chainL,ha,hb,hc,hab,hbc]
end
section
structure Nod where
 u:Uni
 d:Dsk
 up:Bool
 deriving DecidableEq,Inhabited
structure Wor where
 n:List Nod
 tip:Int
 c:List Cli
 time:Int
 deriving DecidableEq
structure Hap where
 kind:Int
 client:Int
 n:Int
 job:Int
 epoch:Int
 e:Entry
 deriving DecidableEq,Inhabited
def zeroU:Uni:=⟨0,[]⟩
def zeroN:Nod:=⟨zeroU,noK,false⟩
def zeroW:Wor:=⟨[],0,[],0⟩
def newCl:Cli:=⟨1,0,zeroE,0,0,0,Book.none⟩
def newN:Nod:=⟨newU,noK,true⟩
def newW:Wor:=⟨[newN,newN,newN],0,[newCl,newCl,newCl],0⟩
def nodAt (l:List Nod) (k:Nat):Nod:=(l[k]?).getD zeroN
def cliAt (l:List Cli) (k:Nat):Cli:=(l[k]?).getD zeroCl
theorem nodAt_eq {l:List Nod} {k:Nat} {x:Nod} (h:l[k]?=some x):nodAt l k=x:=by unfold nodAt;rw [h];rfl
theorem cliAt_eq {l:List Cli} {k:Nat} {x:Cli} (h:l[k]?=some x):cliAt l k=x:=by unfold cliAt;rw [h];rfl
def unitsN (l:List Nod):List Uni:=l.map (·.u)
def checkN (n:Nod):Uni × Int :=
 if checkK n.d≠0 then (zeroU,checkK n.d)
 else if n.up=true∧0<n.d.wait.length then (zeroU,4)
 else if (unitL (recoverK ⟨n.d.safe,[]⟩).2.1).2≠0 then (zeroU,(unitL (recoverK ⟨n.d.safe,[]⟩).2.1).2)
 else if (unitL (recoverK ⟨n.d.safe,[]⟩).2.1).1≠n.u then (zeroU,4)
 else unitL (recoverK n.d).2.1
def checkNs:Option Uni→List Nod→Int
 | _,[]=>0
 | o,n ::l=>if (checkN n).2≠0 then (checkN n).2 else
   match o with
   | none=>checkNs (some n.u) l
   | some p=>if fitC p.cells (checkN n).1.cells then checkNs (some n.u) l else 4
def checkCls (ns:List Nod):List Cli→Int
 | []=>0
 | c ::l=>if checkCl c≠0 then checkCl c
   else if c.doing=2∧0<c.link∧cellAt (nodAt ns (c.link.toNat - 1)).u.cells c.at_.toNat≠c.e then 4 else checkCls ns l
def checkW (w:Wor):Int :=
 if w.n.length≠3∨w.c.length≠3 then 4 else if w.tip<0∨60<w.tip∨w.time<0∨100000<w.time then 3
 else if checkNs none w.n≠0 then checkNs none w.n else checkCls w.n w.c
def setN (w:Wor) (k:Nat) (n:Nod):Wor:=⟨w.n.set k n,w.tip,w.c,w.time⟩
def setC (w:Wor) (k:Nat) (c:Cli):Wor:=⟨w.n,w.tip,w.c.set k c,w.time⟩
def writeN (n:Nod) (r:Rec):Nod × Int :=
 if (nextU n.u r).2≠0 then (n,(nextU n.u r).2)
 else if (putK n.d r).2≠0 then (n,(putK n.d r).2)
 else if (syncK (putK n.d r).1).2≠0 then (n,(syncK (putK n.d r).1).2)
 else (⟨(nextU n.u r).1,(syncK (putK n.d r).1).1,n.up⟩,0)
def keepK (d:Dsk) (k:Int):Int:=max 0 (min k d.wait.length)
def tearN (n:Nod) (r:Rec) (k:Int):Nod × Int :=
 if r.kind=0 then (n,6)
 else if (putK n.d r).2≠0 then (n,(putK n.d r).2)
 else if (crashK (putK n.d r).1 (keepK (putK n.d r).1 k)).2≠0 then (n,(crashK (putK n.d r).1 (keepK (putK n.d r).1 k)).2)
 else (⟨n.u,(crashK (putK n.d r).1 (keepK (putK n.d r).1 k)).1,false⟩,0)
def linkQ (w:Wor) (x:Hap) (c:Cli) (n:Nod) (q:Rec × Entry × Int):Wor × Int :=
 if q.2.2≠0 then (w,q.2.2)
 else if x.kind=15 then (setN w c.link.toNat (tearN n q.1 x.n).1,(tearN n q.1 x.n).2)
 else if q.1.kind≠0∧(writeN n q.1).2≠0 then (w,(writeN n q.1).2)
 else if x.kind=5 then (if q.1.kind≠0 then setN w c.link.toNat (writeN n q.1).1 else w,0)
 else if (heardCl c q.2.1).2≠0 then (w,(heardCl c q.2.1).2)
 else (setC (if q.1.kind≠0 then setN w c.link.toNat (writeN n q.1).1 else w) x.client.toNat (heardCl c q.2.1).1,0)
def linkW (w:Wor) (x:Hap):Wor × Int :=
 if (cliAt w.c x.client.toNat).doing≠2 then (w,7)
 else if (nodAt w.n (cliAt w.c x.client.toNat).link.toNat).up=false then (w,7)
 else linkQ w x (cliAt w.c x.client.toNat) (nodAt w.n (cliAt w.c x.client.toNat).link.toNat)
  (linkC (unitsN w.n) (cliAt w.c x.client.toNat).link (cliAt w.c x.client.toNat).at_ (cliAt w.c x.client.toNat).e (cliAt w.c x.client.toNat).epoch)
def bootN (n:Nod):Nod × Int :=
 if (recoverK n.d).2.2≠0 then (n,(recoverK n.d).2.2)
 else if (unitL (recoverK n.d).2.1).2≠0 then (n,(unitL (recoverK n.d).2.1).2)
 else (⟨(unitL (recoverK n.d).2.1).1,(recoverK n.d).1,true⟩,0)
def powerW (w:Wor) (x:Hap):Wor × Int :=
 if (nodAt w.n x.n.toNat).up=decide (x.kind=13) then (w,7)
 else if x.kind=12 then (setN w x.n.toNat ⟨(nodAt w.n x.n.toNat).u,(nodAt w.n x.n.toNat).d,false⟩,0)
 else (setN w x.n.toNat (bootN (nodAt w.n x.n.toNat)).1,(bootN (nodAt w.n x.n.toNat)).2)
def putCl (w:Wor) (k:Nat) (r:Cli × Int):Wor × Int:=if r.2≠0 then (w,r.2) else (setC w k r.1,0)
def ofUnitW (w:Wor) (x:Hap):Wor × Int :=
 if x.n<0∨3≤x.n then (w,5)
 else if x.kind=12∨x.kind=13 then powerW w x
 else if (nodAt w.n x.n.toNat).up=false then (w,7)
 else if x.kind=8 then (setN w x.n.toNat (writeN (nodAt w.n x.n.toNat) ⟨2,0,x.epoch,zeroE⟩).1,(writeN (nodAt w.n x.n.toNat) ⟨2,0,x.epoch,zeroE⟩).2)
 else if x.client<0∨3≤x.client then (w,5)
 else putCl w x.client.toNat (learnCl (cliAt w.c x.client.toNat) (nodAt w.n x.n.toNat).u.ep)
def nextPl (w:Wor) (c:Cli):Cli × Int :=
 if c.played=60 then (c,2)
 else if (nodAt w.n 2).up=false then (c,7)
 else if (readC (unitsN w.n) c.played).2≠0 then (c,(readC (unitsN w.n) c.played).2)
 else playCl c (readC (unitsN w.n) c.played).1
def ofClientW (w:Wor) (x:Hap):Wor × Int :=
 if x.client<0∨3≤x.client then (w,5)
 else if x.kind=4∨x.kind=5∨x.kind=15 then linkW w x
 else if x.kind=1 then (if x.e.kind=3 then (w,4) else putCl w x.client.toNat (wantCl (cliAt w.c x.client.toNat) x.e))
 else if x.kind=2 then putCl w x.client.toNat (ringCl (cliAt w.c x.client.toNat) x.client x.job w.time)
 else if x.kind=3 then (if w.tip=60 then (w,2) else if (placeCl (cliAt w.c x.client.toNat) w.tip).2≠0 then (w,(placeCl (cliAt w.c x.client.toNat) w.tip).2)
  else (⟨w.n,w.tip+1,w.c.set x.client.toNat (placeCl (cliAt w.c x.client.toNat) w.tip).1,w.time⟩,0))
 else if x.kind=6 then putCl w x.client.toNat (fillCl (cliAt w.c x.client.toNat) x.n)
 else if x.kind=7 then putCl w x.client.toNat (nextPl w (cliAt w.c x.client.toNat))
 else (setC w x.client.toNat newCl,0)
def happenW (w:Wor) (x:Hap):Wor × Int :=
 if x.kind<1∨15<x.kind then (w,4)
 else if x.kind=8∨x.kind=9∨x.kind=12∨x.kind=13 then ofUnitW w x
 else if x.kind=10 then (if x.n<0∨60<x.n then (w,3) else (⟨w.n,x.n,w.c,w.time⟩,0))
 else if x.kind=11 then (if x.n<1∨100000 - w.time<x.n then (w,3) else (⟨w.n,w.tip,w.c,w.time+x.n⟩,0))
 else ofClientW w x
def stepW (w:Wor) (x:Hap):Wor:=if (happenW w x).2=0 then (happenW w x).1 else w
def runGo (w:Wor):List Hap→Wor × List Int
 | []=>(w,[])
 | x ::l=>((runGo (stepW w x) l).1,(happenW w x).2 ::(runGo (stepW w x) l).2)
def runW (w:Wor) (l:List Hap):Wor × List Int × Int :=
 if checkW w≠0 then (zeroW,[],checkW w) else if 150<l.length then (zeroW,[],2) else ((runGo w l).1,(runGo w l).2,0)
def logOf (w:Wor):List Entry:=(nodAt w.n 2).u.cells.takeWhile fun c=>decide (c.kind≠4)
def logW (w:Wor):List Entry × Int:=if checkW w≠0 then ([],checkW w) else (logOf w,0)
def bookW (w:Wor):Book × Int:=if checkW w≠0 then (Book.none,checkW w) else replay (logOf w)
def holesOf (w:Wor):List Nat:=(List.range (tailU (nodAt w.n 0).u.cells)).filter fun k=>decide ((cellAt (nodAt w.n 2).u.cells k).kind=4)
def holesW (w:Wor):List Nat × Int:=if checkW w≠0 then ([],checkW w) else (holesOf w,0)
end
section
theorem link_ok {l : List Uni} {k a : Int} {x : Entry} {ep : Int} {r : Rec} {s : Entry} (h : linkC l k a x ep = (r, s, 0)) :
    GoodC l∧0≤k∧k<3∧0≤a∧a<60∧checkE x=0∧ep=(uniAt l k.toNat).ep∧(0<k→cellAt (uniAt l (k.toNat - 1)).cells a.toNat=x) ∧
     ((r=zeroR∧s=cellAt (uniAt l k.toNat).cells a.toNat∧s.kind≠4)∨(r=⟨1,a,0,x⟩∧s=x∧(cellAt (uniAt l k.toNat).cells a.toNat).kind=4)):=by
 unfold linkC at h
 by_cases h1:checkC l≠0
 · rw [if_pos h1] at h;injection h with _ h;injection h with _ h;exact absurd h h1
 · rw [if_neg h1] at h
   by_cases h2:k<0∨3≤k∨a<0∨60≤a
   · rw [if_pos h2] at h;injection h with _ h;injection h with _ h;cases h
   · rw [if_neg h2] at h
     by_cases h3:checkE x≠0
     · rw [if_pos h3] at h;injection h with _ h;injection h with _ h;exact absurd h h3
     · rw [if_neg h3] at h
       by_cases h4:ep≠(uniAt l k.toNat).ep
       · rw [if_pos h4] at h;injection h with _ h;injection h with _ h;cases h
       · rw [if_neg h4] at h
         by_cases h5:0<k∧cellAt (uniAt l (k.toNat - 1)).cells a.toNat≠x
         · rw [if_pos h5] at h;injection h with _ h;injection h with _ h;cases h
         · rw [if_neg h5] at h
           refine ⟨checkC_iff.1 (Decidable.byContradiction h1),by omega,by omega,by omega,by omega,Decidable.byContradiction h3,by omega,fun hk=>Decidable.byContradiction fun h=>h5 ⟨hk,h⟩,?_⟩
           by_cases h6:(cellAt (uniAt l k.toNat).cells a.toNat).kind≠4
           · rw [if_pos h6] at h
             injection h with e1 h;injection h with e2 _
             exact .inl ⟨e1.symm,e2.symm,e2 ▸ h6⟩
           · rw [if_neg h6] at h
             injection h with e1 h;injection h with e2 _
             exact .inr ⟨e1.symm,e2.symm,by omega⟩
theorem cellAt_set {cs:List Entry} {j k:Nat} {x:Entry} (hj:j<cs.length):cellAt (cs.set j x) k=if k=j then x else cellAt cs k:=by
 unfold cellAt
 rw [List.getElem?_set]
 by_cases h:k=j
 · subst h;simp [hj]
 · rw [if_neg (Ne.symm h),if_neg h]
def putU (u:Uni) (j:Nat) (x:Entry):Uni:=⟨u.ep,u.cells.set j x⟩
theorem next_put {u:Uni} {j:Nat} {x:Entry} (h:GoodU u.ep u.cells) (hj:j<60) (hx:checkE x=0) (hb:(cellAt u.cells j).kind=4):nextU u ⟨1,j,0,x⟩=(putU u j x,0):=by
 unfold nextU
 rw [if_neg (by simp [checkU_iff.2 h])]
 have hr:checkR ⟨1,j,0,x⟩=0:=by
  unfold checkR
  dsimp only
  rw [if_pos rfl,if_neg (by omega),if_neg (by simp)]
  exact hx
 rw [if_neg (by simp [hr])]
 dsimp only
 rw [if_neg (by omega),Int.toNat_natCast,if_neg (by simp [hb])]
 rfl
theorem good3 {a b c:Uni} (ha:GoodU a.ep a.cells) (hb:GoodU b.ep b.cells) (hc:GoodU c.ep c.cells) (h1:fitC a.cells b.cells) (h2:fitC b.cells c.cells):GoodC [a,b,c] :=
 ⟨rfl,fun u hu=>by
  simp at hu
  rcases hu with rfl | rfl | rfl <;> assumption,fun k u v hu hv=>by
  match k,hu,hv with
  | 0,hu,hv=>simp at hu hv;subst hu;subst hv;exact h1
  | 1,hu,hv=>simp at hu hv;subst hu;subst hv;exact h2
  | k+2,hu,hv=>simp at hv⟩
end
end Go.Proofs.YtidlffepdcldkaaGreatDoor
