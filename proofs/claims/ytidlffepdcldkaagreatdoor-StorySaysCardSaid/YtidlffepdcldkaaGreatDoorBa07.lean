/- Part 7 of the proof: LawW3, LawW4. -/
import Derived.Test.YtidlffepdcldkaaGreatDoorBa06
namespace Go.Proofs.YtidlffepdcldkaaGreatDoor
set_option linter.unusedSimpArgs false
set_option linter.unusedVariables false
section
/-! ### Clients -/
theorem learnCl_keeps {c:Cli} {v:Int} (h:(learnCl c v).2=0):checkCl c=0∧c.epoch<v∧v≤20∧(learnCl c v).1=⟨v,c.doing,c.e,c.at_,c.link,c.played,c.b⟩:=by
 unfold learnCl at h ⊢
 split at h
 · rename_i h1;exact absurd h h1
 · rename_i h1
   split at h
   · cases h
   · rename_i h2
     split at h
     · cases h
     · rename_i h3
       rw [if_neg h1,if_neg h2,if_neg h3]
       exact ⟨Decidable.not_not.1 h1,by omega,by omega,rfl⟩
theorem restsCl_iff {c:Cli}:restsCl c=0↔checkCl c=0∧c.doing=0:=by
 unfold restsCl
 by_cases h1:checkCl c≠0
 · rw [if_pos h1];exact ⟨fun h=>absurd h h1,fun h=>absurd h.1 h1⟩
 · rw [if_neg h1]
   have h1:=Decidable.not_not.1 h1
   by_cases h2:c.doing≠0
   · rw [if_pos h2];exact ⟨fun h=>absurd h (by decide),fun h=>absurd h.2 h2⟩
   · rw [if_neg h2];exact ⟨fun _=>⟨h1,Decidable.not_not.1 h2⟩,fun _=>rfl⟩
theorem wantCl_keeps {c:Cli} {y:Entry} (h:(wantCl c y).2=0):checkCl c=0∧c.doing=0∧checkE y=0∧y.kind≠0∧(wantCl c y).1=⟨c.epoch,1,y,c.at_,c.link,c.played,c.b⟩:=by
 unfold wantCl at h ⊢
 split at h
 · rename_i h1;exact absurd h h1
 · rename_i h1
   obtain ⟨g1,g2⟩:=restsCl_iff.1 (Decidable.not_not.1 h1)
   split at h
   · rename_i h2;exact absurd h h2
   · rename_i h2
     split at h
     · cases h
     · rename_i h3
       rw [if_neg h1,if_neg h2,if_neg h3]
       exact ⟨g1,g2,Decidable.not_not.1 h2,h3,rfl⟩
theorem ringCl_keeps {c:Cli} {me job t:Int} (h:(ringCl c me job t).2=0):∃ j,j∈c.b.jobs∧j.id=job∧j.next≤t∧ringCl c me job t=wantCl c ⟨3,job,0,j.next,me⟩∧(wantCl c ⟨3,job,0,j.next,me⟩).2=0:=by
 unfold ringCl at h ⊢
 split at h
 · rename_i h1;exact absurd h h1
 · rename_i h1
   split at h
   · cases h
   · rename_i h2
     split at h
     · cases h
     · rename_i h3
       rw [if_neg h1,if_neg h2,if_neg h3]
       unfold ringM at h ⊢
       cases hf:c.b.jobs.find? (fun j=>decide (j.id=job)) with
       | none=>rw [hf] at h;cases h
       | some j =>
         rw [hf] at h
         dsimp only at h ⊢
         have hm:=List.mem_of_find?_eq_some hf
         have hp:=List.find?_some hf
         by_cases h4:j.next≤t
         · rw [if_pos h4] at h ⊢
           exact ⟨j,hm,by simpa using hp,h4,rfl,h⟩
         · rw [if_neg h4] at h;cases h
theorem placeCl_keeps {c:Cli} {v:Int} (h:(placeCl c v).2=0):checkCl c=0∧c.doing=1∧0≤v∧v<60∧(placeCl c v).1=⟨c.epoch,2,c.e,v,0,c.played,c.b⟩:=by
 unfold placeCl at h ⊢
 split at h
 · rename_i h1;exact absurd h h1
 · rename_i h1
   split at h
   · cases h
   · rename_i h2
     split at h
     · cases h
     · rename_i h3
       rw [if_neg h1,if_neg h2,if_neg h3]
       have hc:=Decidable.not_not.1 h1
       have hd:=Decidable.not_not.1 h2
       have:=(checkCl_iff.1 hc).2.2.1 (by omega)
       exact ⟨hc,hd,by omega,by omega,by dsimp only;rw [this.2]⟩
theorem fillCl_keeps {c:Cli} {v:Int} (h:(fillCl c v).2=0):checkCl c=0∧c.doing=0∧0≤v∧v<60∧(fillCl c v).1=⟨c.epoch,2,zeroE,v,0,c.played,c.b⟩:=by
 unfold fillCl at h ⊢
 split at h
 · rename_i h1;exact absurd h h1
 · rename_i h1
   obtain ⟨g1,g2⟩:=restsCl_iff.1 (Decidable.not_not.1 h1)
   split at h
   · cases h
   · rename_i h3
     rw [if_neg h1,if_neg h3]
     have hc:=checkCl_iff.1 g1
     have:=hc.2.2.1 (by omega)
     exact ⟨g1,g2,by omega,by omega,by dsimp only;rw [this.2,hc.2.2.2.1 g2]⟩
theorem heardCl_keeps {c : Cli} {y : Entry} (h : (heardCl c y).2 = 0) : checkCl c = 0 ∧ c.doing = 2 ∧ checkE y = 0 ∧
    ((y≠c.e∧c.e.kind≠0∧(heardCl c y).1=⟨c.epoch,1,c.e,0,0,c.played,c.b⟩) ∨
     ((y=c.e∨c.e.kind=0)∧c.link=2∧(heardCl c y).1=⟨c.epoch,0,zeroE,0,0,c.played,c.b⟩) ∨
     ((y=c.e∨c.e.kind=0)∧c.link<2∧(heardCl c y).1=⟨c.epoch,2,y,c.at_,c.link+1,c.played,c.b⟩)):=by
 unfold heardCl at h ⊢
 split at h
 · rename_i h1;exact absurd h h1
 · rename_i h1
   have hc:=Decidable.not_not.1 h1
   split at h
   · rename_i h2;exact absurd h h2
   · rename_i h2
     split at h
     · cases h
     · rename_i h3
       have hd:=Decidable.not_not.1 h3
       rw [if_neg h1,if_neg h2,if_neg h3]
       refine ⟨hc,hd,Decidable.not_not.1 h2,?_⟩
       by_cases h4:y≠c.e∧c.e.kind≠0
       · rw [if_pos h4]
         exact .inl ⟨h4.1,h4.2,rfl⟩
       · rw [if_neg h4]
         have h5:y=c.e∨c.e.kind=0:=by
          by_cases h6:y=c.e
          · exact .inl h6
          · exact .inr (Decidable.byContradiction fun h7=>h4 ⟨h6,h7⟩)
         right
         by_cases h6:c.link+1=3
         · rw [if_pos h6]
           exact .inl ⟨h5,by omega,rfl⟩
         · rw [if_neg h6]
           have:=(checkCl_iff.1 hc).1
           exact .inr ⟨h5,by omega,by rw [hd]⟩
theorem OkCl.learn {ns:List Nod} {c:Cli} {v:Int} (hc:OkCl ns c) (h:(learnCl c v).2=0):OkCl ns (learnCl c v).1:=by
 obtain ⟨h1,h2,h3,e⟩:=learnCl_keeps h
 rw [e]
 have g:=checkCl_iff.1 h1
 exact ⟨checkCl_iff.2 ⟨by dsimp only;omega,g.2⟩,hc.2⟩
theorem OkCl.want {ns:List Nod} {c:Cli} {y:Entry} (h:(wantCl c y).2=0):OkCl ns (wantCl c y).1:=by
 obtain ⟨h1,h2,h3,h4,e⟩:=wantCl_keeps h
 rw [e]
 have g:=checkCl_iff.1 h1
 have g3:=g.2.2.1 (by omega)
 exact ⟨checkCl_iff.2 ⟨by dsimp only;omega,h3,fun _=>g3,by simp,fun _=>h4,g.2.2.2.2.2⟩,by simp⟩
theorem OkCl.place {ns:List Nod} {c:Cli} {v:Int} (h:(placeCl c v).2=0):OkCl ns (placeCl c v).1:=by
 obtain ⟨h1,h2,h3,h4,e⟩:=placeCl_keeps h
 rw [e]
 have g:=checkCl_iff.1 h1
 exact ⟨checkCl_iff.2 ⟨by dsimp only;omega,g.2.1,by simp,by simp,by simp,g.2.2.2.2.2⟩,by simp⟩
theorem OkCl.fill {ns:List Nod} {c:Cli} {v:Int} (h:(fillCl c v).2=0):OkCl ns (fillCl c v).1:=by
 obtain ⟨h1,h2,h3,h4,e⟩:=fillCl_keeps h
 rw [e]
 have g:=checkCl_iff.1 h1
 exact ⟨checkCl_iff.2 ⟨by dsimp only;omega,show checkE zeroE=0 by decide,by simp,by simp,by simp,g.2.2.2.2.2⟩,by simp⟩
theorem OkCl.play {ns:List Nod} {c:Cli} {y:Entry} (hc:OkCl ns c) (h:(playCl c y).2=0):OkCl ns (playCl c y).1:=by
 obtain ⟨h1,h2,h3,e,h4⟩:=playCl_keeps h
 rw [e]
 exact ⟨h4,hc.2⟩
theorem OkCl.new {ns:List Nod}:OkCl ns newCl:=⟨by decide,fun h=>by simp [newCl] at h⟩
theorem OkCl.heard {ns:List Nod} {c:Cli} {y:Entry} (h:(heardCl c y).2=0) (hy:cellAt (nodAt ns c.link.toNat).u.cells c.at_.toNat=y):OkCl ns (heardCl c y).1:=by
 obtain ⟨h1,h2,h3,h4⟩:=heardCl_keeps h
 have g:=checkCl_iff.1 h1
 rcases h4 with ⟨a,b,e⟩ | ⟨a,b,e⟩ | ⟨a,b,e⟩
 · rw [e]
   exact ⟨checkCl_iff.2 ⟨by dsimp only;omega,g.2.1,by simp,by simp,fun _=>b,g.2.2.2.2.2⟩,by simp⟩
 · rw [e]
   exact ⟨checkCl_iff.2 ⟨by dsimp only;omega,show checkE zeroE=0 by decide,by simp,by simp,by simp,g.2.2.2.2.2⟩,by simp⟩
 · rw [e]
   refine ⟨checkCl_iff.2 ⟨by dsimp only;omega,h3,by simp,by simp,by simp,g.2.2.2.2.2⟩,fun _ _=>?_⟩
   dsimp only
   have:(c.link+1).toNat - 1=c.link.toNat:=by omega
   rw [this]
   exact hy
/-! ### Nodes -/
theorem fit_put {p u:List Entry} {ep:Int} {a:Nat} {e:Entry} (hl:a<u.length) (h:fitC p u) (he:cellAt p a=e):fitC p (putU ⟨ep,u⟩ a e).cells:=fun k hk=>by
 unfold putU
 dsimp only
 rw [cellAt_set hl]
 split
 · rename_i h5;subst h5;exact .inr he
 · exact h k hk
theorem gr_up {n:Nod} (h:(checkN n).2=0) (hu:n.up=true):gr n=n.u∧∃ l,Holds n.u n.d l:=by
 obtain ⟨l,m,hI⟩:=checkN_inv h
 obtain ⟨_,h2,h3⟩:=hI.holds hu
 exact ⟨h2,l,h3⟩
theorem Holds.gr {u:Uni} {d:Dsk} {l:List Rec} (h:Holds u d l) (up:Bool):checkN ⟨u,d,up⟩=(u,0):=(h.nodI up).chkN
theorem write_node {n:Nod} {r:Rec} (h:(checkN n).2=0) (hu:n.up=true) (hr:(nextU n.u r).2=0):(writeN n r).2=0∧(writeN n r).1.u=(nextU n.u r).1∧(writeN n r).1.up=true∧checkN (writeN n r).1=((nextU n.u r).1,0):=by
 obtain ⟨_,l,hl⟩:=gr_up h hu
 obtain ⟨e,hl'⟩:=hl.write hr
 rw [e]
 exact ⟨rfl,rfl,hu,hl'.gr _⟩
theorem write_ok {n:Nod} {r:Rec} (h:(writeN n r).2=0):(nextU n.u r).2=0:=by
 unfold writeN at h
 split at h
 · rename_i h1;exact absurd h h1
 · rename_i h1;exact Decidable.not_not.1 h1
theorem tear_node {n:Nod} {r:Rec} {k:Int} (h:(checkN n).2=0) (hu:n.up=true) (hr:(nextU n.u r).2=0):(tearN n r k).2=0∧(tearN n r k).1.u=n.u∧(tearN n r k).1.up=false∧(checkN (tearN n r k).1=(n.u,0)∨checkN (tearN n r k).1=((nextU n.u r).1,0)):=by
 obtain ⟨_,l,hl⟩:=gr_up h hu
 obtain ⟨j,e,hI⟩:=hl.tear hr k
 rw [e]
 refine ⟨rfl,rfl,rfl,?_⟩
 rcases hI with hI | hI
 · exact .inl hI.chkN
 · exact .inr hI.chkN
theorem GoodW.unitOk {w:Wor} (h:GoodW w) {k:Nat} (hk:k<3):GoodU (nodAt w.n k).u.ep (nodAt w.n k).u.cells:=by
 obtain ⟨l,m,hI⟩:=checkN_inv (h.node k hk)
 exact hI.good.1
theorem GoodW.write {w : Wor} (h : GoodW w) {k : Nat} (hk : k < 3) {r : Rec} (hu : (nodAt w.n k).up = true) (hr : (nextU (nodAt w.n k).u r).2 = 0) (hf : 0 < k → fitC (nodAt w.n (k - 1)).u.cells (nextU (nodAt w.n k).u r).1.cells) :
    GoodW (Go.Proofs.YtidlffepdcldkaaGreatDoor.setN w k (writeN (nodAt w.n k) r).1):=by
 obtain ⟨h1,h2,h3,h4⟩:=write_node (h.node k hk) hu hr
 refine h.setN hk (by rw [h4]) (fun h0=>?_) (by rw [h2];exact nextU_upon hr)
 unfold gr
 rw [h4]
 exact hf h0
theorem GoodW.tear {w : Wor} (h : GoodW w) {k : Nat} (hk : k < 3) {r : Rec} {n : Int} (hu : (nodAt w.n k).up = true) (hr : (nextU (nodAt w.n k).u r).2 = 0) (hf : 0 < k → fitC (nodAt w.n (k - 1)).u.cells (nextU (nodAt w.n k).u r).1.cells) :
    GoodW (Go.Proofs.YtidlffepdcldkaaGreatDoor.setN w k (tearN (nodAt w.n k) r n).1):=by
 obtain ⟨h1,h2,h3,h4⟩:=tear_node (k:=n) (h.node k hk) hu hr
 obtain ⟨hg,_⟩:=gr_up (h.node k hk) hu
 refine h.setN hk (by rcases h4 with h4 | h4 <;> rw [h4]) (fun h0=>?_) (by rw [h2];exact Upon.rfl' _)
 unfold gr
 rcases h4 with h4 | h4
 · rw [h4]
   have:=h.fit (k - 1) (by omega)
   rw [show k - 1+1=k by omega,hg] at this
   exact this
 · rw [h4]
   exact hf h0
theorem GoodW.fitPut {w : Wor} (h : GoodW w) {k a : Nat} {e : Entry} (hk : k < 3) (ha : a < 60) (hu : (nodAt w.n k).up = true) (he : 0 < k → cellAt (nodAt w.n (k - 1)).u.cells a = e) (h0 : 0 < k) :
    fitC (nodAt w.n (k - 1)).u.cells (putU (nodAt w.n k).u a e).cells:=by
 obtain ⟨hg,_⟩:=gr_up (h.node k hk) hu
 have:=h.fit (k - 1) (by omega)
 rw [show k - 1+1=k by omega,hg] at this
 exact fit_put (u:=(nodAt w.n k).u.cells) (ep:=(nodAt w.n k).u.ep) (by have:=(h.unitOk hk).len;omega) this (he h0)
theorem GoodW.link {w:Wor} {x:Hap} (h:GoodW w) (hi:x.client.toNat<3) (hx:(linkW w x).2=0):GoodW (linkW w x).1:=by
 obtain ⟨i,k,a,c,n,r,rfl,rfl,hd,hlk,hk,rfl,hu,hat,ha,he,hep,hfr,rfl,hcase⟩:=link_inv h hi hx
 rcases hcase with ⟨h4,h5,⟨h6,e⟩ | ⟨h6,h7,e⟩⟩ | ⟨h4,hnx,hh⟩
 · rw [e];exact h
 · rw [e]
   refine h.setC (OkCl.heard h7 ?_)
   rw [hlk,hat]
   rfl
 · have hr:(nextU (nodAt w.n k).u ⟨1,a,0,(cliAt w.c x.client.toNat).e⟩).2=0:=by rw [hnx]
   have hf:0<k→fitC (nodAt w.n (k - 1)).u.cells (nextU (nodAt w.n k).u ⟨1,a,0,(cliAt w.c x.client.toNat).e⟩).1.cells:=fun h0=>by
    rw [hnx]
    exact h.fitPut hk ha hu hfr h0
   rcases hh with ⟨h6,e⟩ | ⟨h6,e⟩ | ⟨h5,h6,h7,e⟩
   · rw [e];exact h.tear hk hu hr hf
   · rw [e];exact h.write hk hu hr hf
   · rw [e]
     refine (h.write hk hu hr hf).setC (OkCl.heard h7 ?_)
     rw [hlk,hat]
     show cellAt (nodAt (w.n.set k (writeN (nodAt w.n k) _).1) k).u.cells a=_
     have hl:=h.n3
     rw [nodAt_set (by omega),if_pos rfl,(write_node (h.node k hk) hu hr).2.1,hnx]
     show cellAt ((nodAt w.n k).u.cells.set a _) a=_
     rw [cellAt_set (by have:=(h.unitOk hk).len;omega),if_pos rfl]
theorem GoodW.happen {w:Wor} {x:Hap} (h:GoodW w) (hx:(happenW w x).2=0):GoodW (happenW w x).1:=by
 have hl:=h.n3
 have hcl:=h.c3
 rcases happen_inv hx with ⟨_,h1,h2,e⟩ | ⟨_,h1,h2,e⟩ | ⟨k,hk,hn,hh⟩ | ⟨i,hi,hc,hh⟩
 · rw [e];exact ⟨h.n3,h.c3,h1,h2,h.t0,h.t1,h.node,h.fit,h.cli⟩
 · rw [e];exact ⟨h.n3,h.c3,h.tip0,h.tip1,by have:=h.t0;dsimp only;omega,by dsimp only;omega,h.node,h.fit,h.cli⟩
 · have hnk:=h.node k hk
   obtain ⟨l,m,hI⟩:=checkN_inv hnk
   have hfit:0<k→fitC (nodAt w.n (k - 1)).u.cells (gr (nodAt w.n k)).cells:=fun h0=>by
    have:=h.fit (k - 1) (by omega)
    rwa [show k - 1+1=k by omega] at this
   rcases hh with ⟨_,h2,e⟩ | ⟨_,h2,h3,e⟩ | ⟨_,h2,h3,e⟩ | ⟨_,h2,i,hi,_,h3,e⟩
   · rw [e]
     have hd:=hI.down.chkN
     refine h.setN hk (by rw [hd]) (fun h0=>?_) (Upon.rfl' _)
     unfold gr;rw [hd];exact hfit h0
   · rw [e,hI.boot]
     have hd:=hI.gHolds.gr true
     refine h.setN hk (by dsimp only;rw [hd]) (fun h0=>?_) hI.upon
     dsimp only
     unfold gr;rw [hd];exact hfit h0
   · rw [e]
     have hr:=write_ok h3
     refine h.write hk h2 hr fun h0=>?_
     obtain ⟨e1,_⟩:=nextU_seal hr rfl
     rw [e1]
     have:=hfit h0
     rw [(gr_up hnk h2).1] at this
     exact this
   · rw [e];exact h.setC ((h.cli i hi).learn h3)
 · rcases hh with ⟨_,h1,e⟩ | ⟨_,_,h1,e⟩ | ⟨_,h1,e⟩ | ⟨_,h2,h1,e⟩ | ⟨_,h1,e⟩ | ⟨_,h1,e⟩ | ⟨_,e⟩
   · rw [e];exact h.link (by omega) h1
   · rw [e];exact h.setC (OkCl.want h1)
   · obtain ⟨j,_,_,_,e2,h3⟩:=ringCl_keeps h1
     rw [e,e2];exact h.setC (OkCl.want h3)
   · rw [e]
     have h3:=h.tip0;have h4:=h.tip1
     have h5:=h.setC (i:=i) (OkCl.place (ns:=w.n) h1)
     exact ⟨h5.n3,h5.c3,by dsimp only;omega,by dsimp only;omega,h.t0,h.t1,h5.node,h5.fit,h5.cli⟩
   · rw [e];exact h.setC (OkCl.fill h1)
   · rw [e]
     refine h.setC ?_
     unfold nextPl at h1 ⊢
     split at h1
     · cases h1
     · rename_i g1
       split at h1
       · cases h1
       · rename_i g2
         split at h1
         · rename_i g3;exact absurd h1 g3
         · rename_i g3
           rw [if_neg g1,if_neg g2,if_neg g3]
           exact (h.cli i hi).play h1
   · rw [e];exact h.setC OkCl.new
theorem GoodW.step {w:Wor} {x:Hap} (h:GoodW w):GoodW (stepW w x):=by
 unfold stepW
 split
 · rename_i hx;exact h.happen hx
 · exact h
theorem GoodW.run {l:List Hap}:∀ {w:Wor},GoodW w→GoodW (runGo w l).1:=by
 induction l with
 | nil=>exact fun h=>h
 | cons x l ih=>exact fun h=>ih h.step
end
section
/-! ### WorldParts -/
/-! ### WorldKeeps -/
structure KeepsW (w y:Wor) (client:Int):Prop where
 time:w.time≤y.time
 cl:∀ k,k<3→cliAt y.c k≠cliAt w.c k→(k:Int)=client
 one:∃ k0,k0<3∧∀ k,k≠k0→nodAt y.n k=nodAt w.n k
 upon:∀ k,Upon (nodAt w.n k).u (nodAt y.n k).u
theorem KeepsW.setN {w:Wor} {k:Nat} {n':Nod} {cl:Int} (hl:w.n.length=3) (hk:k<3) (hu:Upon (nodAt w.n k).u n'.u):KeepsW w (setN w k n') cl:=by
 refine ⟨Int.le_refl _,fun j _ h=>absurd rfl h,⟨k,hk,fun j hj=>?_⟩,setN_upon (by omega) hu⟩
 show nodAt (w.n.set k n') j=_
 rw [nodAt_set (by omega),if_neg hj]
theorem KeepsW.setC {w y:Wor} {i:Nat} {c':Cli} {cl:Int} (h:KeepsW w y cl) (hi:(i:Int)=cl):KeepsW w (setC y i c') cl:=by
 refine ⟨h.time,fun j hj hne=>?_,h.one,h.upon⟩
 by_cases hji:j=i
 · rw [hji];exact hi
 · refine h.cl j hj fun e=>hne ?_
   show cliAt (y.c.set i c') j=_
   rw [← e]
   unfold cliAt
   rw [List.getElem?_set,if_neg (Ne.symm hji)]
theorem KeepsW.rfl' {w:Wor} {cl:Int}:KeepsW w w cl:=⟨Int.le_refl _,fun _ _ h=>absurd rfl h,⟨0,by omega,fun _ _=>rfl⟩,fun _=>Upon.rfl' _⟩
theorem keepsW_law {w:Wor} {x:Hap} (h:GoodW w) (hx:(happenW w x).2=0):KeepsW w (happenW w x).1 x.client:=by
 have hl:=h.n3
 rcases happen_inv hx with ⟨_,h1,h2,e⟩ | ⟨_,h1,h2,e⟩ | ⟨k,hk,hn,hh⟩ | ⟨i,hi,hc,hh⟩
 · rw [e];exact ⟨Int.le_refl _,fun _ _ h=>absurd rfl h,⟨0,by omega,fun _ _=>rfl⟩,fun _=>Upon.rfl' _⟩
 · rw [e];exact ⟨by dsimp only;omega,fun _ _ h=>absurd rfl h,⟨0,by omega,fun _ _=>rfl⟩,fun _=>Upon.rfl' _⟩
 · obtain ⟨l,m,hI⟩:=checkN_inv (h.node k hk)
   rcases hh with ⟨_,h2,e⟩ | ⟨_,h2,h3,e⟩ | ⟨_,h2,h3,e⟩ | ⟨_,h2,i,hi,hc,h3,e⟩
   · rw [e];exact .setN hl hk (Upon.rfl' _)
   · rw [e,hI.boot];exact .setN hl hk hI.upon
   · rw [e]
     have hr:=write_ok h3
     refine .setN hl hk ?_
     rw [(write_node (h.node k hk) h2 hr).2.1]
     exact nextU_upon hr
   · rw [e];exact KeepsW.rfl'.setC hc.symm
 · rcases hh with ⟨_,h1,e⟩ | ⟨_,_,h1,e⟩ | ⟨_,h1,e⟩ | ⟨_,h2,h1,e⟩ | ⟨_,h1,e⟩ | ⟨_,h1,e⟩ | ⟨_,e⟩
   · rw [e]
     obtain ⟨i',k,a,c,n,r,rfl,rfl,hd,hlk,hk,rfl,hu,hat,ha,he,hep,hfr,rfl,hcase⟩:=link_inv h (by omega) h1
     have hci:(x.client.toNat:Int)=x.client:=by omega
     rcases hcase with ⟨h4,h5,⟨h6,e⟩ | ⟨h6,h7,e⟩⟩ | ⟨h4,hnx,hh⟩
     · rw [e];exact .rfl'
     · rw [e];exact KeepsW.rfl'.setC hci
     · have hr:(nextU (nodAt w.n k).u ⟨1,a,0,(cliAt w.c x.client.toNat).e⟩).2=0:=by rw [hnx]
       have hw:Upon (nodAt w.n k).u (writeN (nodAt w.n k) ⟨1,a,0,(cliAt w.c x.client.toNat).e⟩).1.u:=by
        rw [(write_node (h.node k hk) hu hr).2.1];exact nextU_upon hr
       rcases hh with ⟨h6,e⟩ | ⟨h6,e⟩ | ⟨h5,h6,h7,e⟩
       · rw [e]
         refine .setN hl hk ?_
         rw [(tear_node (h.node k hk) hu hr).2.1];exact Upon.rfl' _
       · rw [e];exact .setN hl hk hw
       · rw [e];exact (KeepsW.setN hl hk hw).setC hci
   · rw [e];exact KeepsW.rfl'.setC hc.symm
   · rw [e];exact KeepsW.rfl'.setC hc.symm
   · rw [e]
     have:=(KeepsW.rfl' (w:=w) (cl:=x.client)).setC (c':=(placeCl (cliAt w.c i) w.tip).1) hc.symm
     exact ⟨this.time,this.cl,this.one,this.upon⟩
   · rw [e];exact KeepsW.rfl'.setC hc.symm
   · rw [e];exact KeepsW.rfl'.setC hc.symm
   · rw [e];exact KeepsW.rfl'.setC hc.symm
/-! ### WorldStands -/
/-! ### WorldDeaf,WorldTorn -/
structure LinkOk (w:Wor) (i k a:Nat):Prop where
 i3:i<3
 k3:k<3
 a6:a<60
 doing:(cliAt w.c i).doing=2
 link:(cliAt w.c i).link=k
 at_:(cliAt w.c i).at_=a
 up:(nodAt w.n k).up=true
 ep:(cliAt w.c i).epoch=(nodAt w.n k).u.ep
 front:0<k→cellAt (nodAt w.n (k - 1)).u.cells a=(cliAt w.c i).e
end
end Go.Proofs.YtidlffepdcldkaaGreatDoor
