/- The law StorySays. No condition beyond the listed variables, which the card ties. -/
/- Part 45 of the proof: LawS2, RSays, RSaysL. -/
import Derived.Test.YtidlffepdcldkaaGreatDoorBa41
import Derived.Test.YtidlffepdcldkaaGreatDoorBa42
import Derived.Test.YtidlffepdcldkaaGreatDoorBa44
import Derived.Test.YtidlffepdcldkaaGreatDoorBa43
import Derived.Test.YtidlffepdcldkaaGreatDoorBa40
import Derived.Test.YtidlffepdcldkaaGreatDoorBa37
import Derived.Test.YtidlffepdcldkaaGreatDoorBa04
import Derived.Test.YtidlffepdcldkaaGreatDoorBa16
import Derived.Test.YtidlffepdcldkaaGreatDoorBa21
import Derived.Test.YtidlffepdcldkaaGreatDoorBa10
import Derived.Test.YtidlffepdcldkaaGreatDoorBa09
import Derived.Test.YtidlffepdcldkaaGreatDoorCards
import Derived.Test.YtidlffepdcldkaaGreatDoorTie
import Derived.SevenTiedAt
namespace Go.Proofs.YtidlffepdcldkaaGreatDoor
set_option linter.unusedSimpArgs false
set_option linter.unusedVariables false
section
def SameB (c c':Cli):Prop:=c'.played=c.played∧c'.b=c.b
theorem learnCl_b {c:Cli} {v:Int} (h:(learnCl c v).2=0):SameB c (learnCl c v).1:=by
 obtain ⟨_,_,_,e⟩:=learnCl_keeps h;rw [e];exact ⟨rfl,rfl⟩
theorem wantCl_b {c:Cli} {y:Entry} (h:(wantCl c y).2=0):SameB c (wantCl c y).1:=by
 obtain ⟨_,_,_,_,e⟩:=wantCl_keeps h;rw [e];exact ⟨rfl,rfl⟩
theorem ringCl_b {c:Cli} {me job t:Int} (h:(ringCl c me job t).2=0):SameB c (ringCl c me job t).1:=by
 obtain ⟨j,_,_,_,e,h1⟩:=ringCl_keeps h;rw [e];exact wantCl_b h1
theorem placeCl_b {c:Cli} {v:Int} (h:(placeCl c v).2=0):SameB c (placeCl c v).1:=by
 obtain ⟨_,_,_,_,e⟩:=placeCl_keeps h;rw [e];exact ⟨rfl,rfl⟩
theorem fillCl_b {c:Cli} {v:Int} (h:(fillCl c v).2=0):SameB c (fillCl c v).1:=by
 obtain ⟨_,_,_,_,e⟩:=fillCl_keeps h;rw [e];exact ⟨rfl,rfl⟩
theorem heardCl_b {c:Cli} {y:Entry} (h:(heardCl c y).2=0):SameB c (heardCl c y).1:=by
 obtain ⟨_,_,_,h4⟩:=heardCl_keeps h
 rcases h4 with ⟨_,_,e⟩ | ⟨_,_,e⟩ | ⟨_,_,e⟩ <;> (rw [e];exact ⟨rfl,rfl⟩)
theorem cliAt_setC {w:Wor} {i j:Nat} {c:Cli} (hi:i<w.c.length):cliAt (setC w i c).c j=if j=i then c else cliAt w.c j:=cliAt_set hi
theorem books_cases {w : Wor} {x : Hap} (h : GoodW w) (hx : (happenW w x).2 = 0) : ∀ j, j < 3 →
    SameB (cliAt w.c j) (cliAt (happenW w x).1.c j)∨cliAt (happenW w x).1.c j=newCl ∨
    (∃ s,(cliAt w.c j).played<60∧(happenW w x).1.n=w.n∧readC (unitsN w.n) (cliAt w.c j).played=(s,0)∧(playCl (cliAt w.c j) s).2=0∧cliAt (happenW w x).1.c j=(playCl (cliAt w.c j) s).1):=by
 intro j hj
 have hcl:=h.c3
 have put:∀ {y:Wor} {i:Nat} {c':Cli},y.c=w.c→i<3→SameB (cliAt w.c i) c'→SameB (cliAt w.c j) (cliAt (setC y i c').c j):=fun {y i c'} hy hi hs=>by
  rw [cliAt_setC (by rw [hy];omega),hy]
  split
  · rename_i e;subst e;exact hs
  · exact ⟨rfl,rfl⟩
 rcases happen_inv hx with ⟨_,h1,h2,e⟩ | ⟨_,h1,h2,e⟩ | ⟨k,hk,hn,hh⟩ | ⟨i,hi,hc,hh⟩
 · rw [e];exact .inl ⟨rfl,rfl⟩
 · rw [e];exact .inl ⟨rfl,rfl⟩
 · rcases hh with ⟨_,h2,e⟩ | ⟨_,h2,h3,e⟩ | ⟨_,h2,h3,e⟩ | ⟨_,h2,i,hi,hc,h3,e⟩
   · rw [e];exact .inl ⟨rfl,rfl⟩
   · rw [e];exact .inl ⟨rfl,rfl⟩
   · rw [e];exact .inl ⟨rfl,rfl⟩
   · rw [e];exact .inl (put rfl hi (learnCl_b h3))
 · rcases hh with ⟨_,h1,e⟩ | ⟨_,_,h1,e⟩ | ⟨_,h1,e⟩ | ⟨_,h2,h1,e⟩ | ⟨_,h1,e⟩ | ⟨_,h1,e⟩ | ⟨_,e⟩
   · rw [e]
     left
     obtain ⟨i',k,a,c,n,r,rfl,rfl,hd,hlk,hk,rfl,hu,hat,ha,he,hep,hfr,rfl,hcase⟩:=link_inv h (by omega) h1
     rcases hcase with ⟨h4,h5,⟨h6,e⟩ | ⟨h6,h7,e⟩⟩ | ⟨h4,hnx,⟨h6,e⟩ | ⟨h6,e⟩ | ⟨h5,h6,h7,e⟩⟩
     · rw [e];exact ⟨rfl,rfl⟩
     · rw [e];exact put rfl (by omega) (heardCl_b h7)
     · rw [e];exact ⟨rfl,rfl⟩
     · rw [e];exact ⟨rfl,rfl⟩
     · rw [e];exact put rfl (by omega) (heardCl_b h7)
   · rw [e];exact .inl (put rfl hi (wantCl_b h1))
   · rw [e];exact .inl (put rfl hi (ringCl_b h1))
   · rw [e];exact .inl (put rfl hi (placeCl_b h1))
   · rw [e];exact .inl (put rfl hi (fillCl_b h1))
   · rw [e]
     by_cases hji:j=i
     · subst hji
       right;right
       unfold nextPl at h1 ⊢
       split at h1
       · cases h1
       · rename_i g1
         split at h1
         · cases h1
         · rename_i g2
           split at h1
           · rename_i g3;exact absurd h1 g3
           · rename_i g3
             rw [if_neg g1,if_neg g2,if_neg g3]
             have:=(checkCl_iff.1 (h.cli j hj).1).1
             refine ⟨(readC (unitsN w.n) (cliAt w.c j).played).1,by omega,rfl,Prod.ext rfl (Decidable.not_not.1 g3),h1,?_⟩
             rw [cliAt_setC (by omega),if_pos rfl]
     · left
       rw [cliAt_setC (by omega),if_neg hji]
       exact ⟨rfl,rfl⟩
   · rw [e]
     rw [cliAt_setC (by omega)]
     split
     · exact .inr (.inl rfl)
     · exact .inl ⟨rfl,rfl⟩
theorem replayB_snoc {e:Entry}:∀ {l:List Entry} {b b1:Book},replayB b l=(b1,0)→replayB b (l ++[e])=replayB b1 [e]
 | [],b,b1,h=>by
   simp only [replayB,Prod.mk.injEq,and_true] at h
   subst h
   rfl
 | x ::l,b,b1,h=>by
   rw [List.cons_append,replayB]
   rw [replayB] at h
   by_cases h1:(applyB b x).2≠0
   · rw [if_pos h1] at h
     simp only [Prod.mk.injEq] at h
     exact absurd h.2 h1
   · rw [if_neg h1] at h ⊢
     exact replayB_snoc h
theorem replay_snoc {l:List Entry} {b:Book} {e:Entry} (h:replay l=(b,0)) (hl:l.length<60) (he:(applyB b e).2=0):replay (l ++[e])=((applyB b e).1,0):=by
 unfold replay at h ⊢
 rw [if_neg (by omega)] at h
 rw [if_neg (by simp;omega),replayB_snoc h,replayB,if_neg (by simp [he])]
 rfl
theorem GoodW.logLen {w:Wor} (h:GoodW w):(logOf w).length≤60:=by
 have:=(holes_law h).2.2.2.1
 have h1:=tail_le (cs:=(nodAt w.n 0).u.cells)
 have h2:=(h.unitOk (k:=0) (by omega)).len
 omega
theorem read_log {w:Wor} (h:GoodW w) {p:Nat} {s:Entry} (hp:p≤(logOf w).length) (h6:p<60) (hr:readC (unitsN w.n) p=(s,0)):(logOf w)[p]?=some s:=by
 have hl:=(h.unitOk (k:=2) (by omega)).len
 unfold readC at hr
 rw [if_neg (by simp [checkC_iff.2 h.chain]),if_neg (by omega)] at hr
 simp only [Int.toNat_natCast,uniAt_units] at hr
 by_cases h4:(cellAt (nodAt w.n 2).u.cells p).kind=4
 · rw [if_pos h4] at hr;cases hr
 · rw [if_neg h4] at hr
   have hs:cellAt (nodAt w.n 2).u.cells p=s:=(Prod.mk.inj hr).1
   have hlt:p<(logOf w).length:=by
    rcases Nat.lt_or_ge p (logOf w).length with g | g
    · exact g
    · have e:p=(logOf w).length:=by omega
      have:=log_end (cs:=(nodAt w.n 2).u.cells) (by
       show (logOf w).length<_
       omega)
      exact absurd (by rw [e];exact this) h4
   rw [← hs,List.getElem?_eq_getElem hlt]
   congr 1
   have hpre:logOf w <+:(nodAt w.n 2).u.cells:=List.takeWhile_prefix _
   rw [hpre.getElem hlt]
   unfold cellAt
   rw [List.getElem?_eq_getElem (by omega)]
   rfl
def BooksI (w:Wor):Prop:=∀ i,i<3→(cliAt w.c i).played.toNat≤(logOf w).length∧replay ((logOf w).take (cliAt w.c i).played.toNat)=((cliAt w.c i).b,0)
theorem BooksI.new:BooksI newW:=fun i hi=>by
 have:cliAt newW.c i=newCl:=by rcases lt3 hi with rfl | rfl | rfl <;> rfl
 rw [this]
 exact ⟨Nat.zero_le _,rfl⟩
theorem books_law {w:Wor} {x:Hap} (h:GoodW w) (hb:BooksI w) (hx:(happenW w x).2=0):BooksI (happenW w x).1:=by
 obtain ⟨g1,g2⟩:=grows_law h hx
 intro j hj
 obtain ⟨b1,b2⟩:=hb j hj
 have hc:=(checkCl_iff.1 (h.cli j hj).1).1
 rcases books_cases h hx j hj with ⟨e1,e2⟩ | e | ⟨s,hp,hn,hr,hpl,e⟩
 · rw [e1,e2]
   refine ⟨by omega,?_⟩
   rw [← b2,← g2,List.take_take,Nat.min_eq_left b1]
 · rw [e]
   exact ⟨Nat.zero_le _,rfl⟩
 · obtain ⟨_,_,hs,ep,_⟩:=playCl_keeps hpl
   have hlog:logOf (happenW w x).1=logOf w:=by unfold logOf;rw [hn]
   rw [e,ep,hlog]
   dsimp only
   obtain ⟨p,hpn⟩:∃ p:Nat,(cliAt w.c j).played=p:=⟨(cliAt w.c j).played.toNat,by omega⟩
   rw [hpn] at hr b1 b2 hp ⊢
   rw [Int.toNat_natCast] at b1 b2
   have hat:=read_log h b1 (by omega) hr
   obtain ⟨hlt,hat'⟩:=List.getElem?_eq_some_iff.1 hat
   have ht:((p:Int)+1).toNat=p+1:=by omega
   rw [ht]
   refine ⟨by omega,?_⟩
   rw [List.take_add_one,hat]
   refine replay_snoc b2 (by rw [List.length_take];omega) ?_
   unfold playCl at hpl
   split at hpl
   · rename_i g;exact absurd hpl g
   · split at hpl
     · cases hpl
     · split at hpl
       · rename_i g;exact absurd hpl g
       · rename_i g;exact Decidable.not_not.1 g
end
section
open Go.RowKit
attribute [local go_sem ↓] Go.wp_at_zero Go.wp_at_succ
theorem good_noneS:GoodB Book.none:=⟨by decide,by decide,by simp [Book.none],by simp [Book.none],by simp [Book.none]⟩
theorem saysB_good:∀ {l:List Entry} {b:Book},GoodB b→GoodB (replayB b l).1
 | [],b,h=>h
 | e ::l,b,h=>by
   rw [replayB]
   by_cases h1:(applyB b e).2=0
   · rw [if_neg (by simp [h1])];exact saysB_good (applyB_good h h1).2
   · rw [if_pos h1];exact good_noneS
theorem says_good {l:List Entry}:GoodB (replay l).1:=by
 unfold replay
 by_cases h:60<l.length
 · rw [if_pos h];exact good_noneS
 · rw [if_neg h];exact saysB_good good_noneS
theorem holes_ints (l:List Nat):l.map (fun k:Nat=>encI k)=(l.map (fun k:Nat=>(k:Int))).map encI:=by rw [List.map_map];rfl
set_option maxHeartbeats 8000000 in
set_option maxRecDepth 100000 in
theorem StorySays_calls (A : Option Addr) (n c : Nat) (tip : Int) (C : Option Addr) (m d : Nat) (time : Int) (ns : List NV) (cs : List CV) (w : World) (E : Env w) (R : WR w A n C m ns cs) :
    Calls Tryz.prog 3 #[.agg #[.slice A n c,.int .i64 tip,.slice C m d,.int .i64 time]] w fun e w'=>e=.returned (.bool true)∧Onto w w':=by
 obtain ⟨q,hq⟩:∃ q,q=checkW (wor ns tip cs time):=⟨_,rfl⟩
 obtain ⟨Lq,hLq⟩:∃ l,l=logW (wor ns tip cs time):=⟨_,rfl⟩
 obtain ⟨Bq,hBq⟩:∃ l,l=bookW (wor ns tip cs time):=⟨_,rfl⟩
 obtain ⟨Hq,hHq⟩:∃ l,l=holesW (wor ns tip cs time):=⟨_,rfl⟩
 have HQ:=Lib.hid hq;have HLQ:=Lib.hid hLq;have HBQ:=Lib.hid hBq;have HHQ:=Lib.hid hHq
 clear hq hLq hBq hHq
 go_enter Tryz.func3,Tryz.ntmps3
 go_upto_region 1 with fail
 refine wp_box1 (v1:=[.slice A n c,.int .i64 tip,.slice C m d,.int .i64 time]) rfl fun w1 on X=>?_
 replace R:=R.onto on
 generalize w.heap.size=zx at X ⊢
 have x0:=X.at_ 0 rfl;have x1:=X.at_ 1 rfl;have x2:=X.at_ 2 rfl;have x3:=X.at_ 3 rfl
 go_wp2_with fail
 refine Calls.mono (SLog_calls A n c tip C m d time ns cs _ (E.onto on) R) ?_
 rw [← HLQ.out]
 rintro e w2 ⟨B1,b1,y1,rfl,s1,_,_,ob,_⟩
 replace s1:S w2 5 B1 b1 (Lq.1.map encE):=s1
 replace on:=on.to ob;replace X:=X.onto ob;replace R:=R.onto ob
 clear ob x0 x1 x2 x3
 have x0:=X.at_ 0 rfl;have x1:=X.at_ 1 rfl;have x2:=X.at_ 2 rfl;have x3:=X.at_ 3 rfl
 go_wp2_with fail
 refine Calls.mono (SBook_calls A n c tip C m d time ns cs _ (E.onto on) R) ?_
 rw [← HBQ.out]
 rintro e w3 ⟨A4,n4,c4,A5,n5,c5,rfl,s4,s5,ob⟩
 replace s4:S w3 3 A4 n4 (Bq.1.jobs.map encJ):=s4
 replace s5:S w3 3 A5 n5 (Bq.1.rung.map encR):=s5
 replace on:=on.to ob;replace X:=X.onto ob;replace R:=R.onto ob;replace s1:=s1.onto ob
 clear ob x0 x1 x2 x3
 go_upto_region 3 with fail
 refine wp_box1 (v1:=[.slice A4 n4 c4,.slice A5 n5 c5]) rfl fun w4 ob Y=>?_
 replace on:=on.to ob;replace X:=X.onto ob;replace R:=R.onto ob;replace s1:=s1.onto ob;replace s4:=s4.onto ob;replace s5:=s5.onto ob
 generalize w3.heap.size=zy at Y ⊢
 clear ob
 have x0:=X.at_ 0 rfl;have x1:=X.at_ 1 rfl;have x2:=X.at_ 2 rfl;have x3:=X.at_ 3 rfl
 go_wp2_with fail
 refine Calls.mono (SHoles_calls A n c tip C m d time ns cs _ (E.onto on) R) ?_
 rw [← HHQ.out]
 rintro e w5 ⟨B2,b2,y2,rfl,s2,_,_,ob,_⟩
 replace s2:S w5 1 B2 b2 (Hq.1.map fun k:Nat=>encI k):=s2
 replace on:=on.to ob;replace X:=X.onto ob;replace R:=R.onto ob;replace s1:=s1.onto ob;replace s4:=s4.onto ob;replace s5:=s5.onto ob;replace Y:=Y.onto ob
 clear ob x0 x1 x2 x3
 have x0:=X.at_ 0 rfl;have x1:=X.at_ 1 rfl;have x2:=X.at_ 2 rfl;have x3:=X.at_ 3 rfl
 go_wp2_with fail
 refine Calls.mono (RCW_calls A n c tip C m d time ns cs _ (E.onto on) R) ?_
 rw [← HQ.out]
 rintro e w6 ⟨rfl,ob⟩
 replace on:=on.to ob;replace X:=X.onto ob;replace R:=R.onto ob;replace s1:=s1.onto ob;replace s2:=s2.onto ob;replace s4:=s4.onto ob;replace s5:=s5.onto ob;replace Y:=Y.onto ob
 clear ob x0 x1 x2 x3
 go_wp2_with fail
 refine Calls.mono (told_calls _ (E.onto on)) ?_
 rintro e w7 ⟨rfl,ob⟩
 replace on:=on.to ob;replace X:=X.onto ob;replace R:=R.onto ob;replace s1:=s1.onto ob;replace s2:=s2.onto ob;replace s4:=s4.onto ob;replace s5:=s5.onto ob;replace Y:=Y.onto ob
 clear ob
 by_cases hq0:q=0
 · subst hq0
   have hg:=checkW_iff.1 HQ.out.symm
   have hL:Lq=(logOf (wor ns tip cs time),0):=by rw [HLQ.out];unfold logW;rw [if_neg (by rw [← HQ.out];simp)]
   have hB:Bq=replay (logOf (wor ns tip cs time)):=by rw [HBQ.out];unfold bookW;rw [if_neg (by rw [← HQ.out];simp)]
   have hH:Hq=(holesOf (wor ns tip cs time),0):=by rw [HHQ.out];unfold holesW;rw [if_neg (by rw [← HQ.out];simp)]
   obtain ⟨l,hl⟩:∃ l,l=logOf (wor ns tip cs time):=⟨_,rfl⟩
   obtain ⟨h,hh⟩:∃ l,l=holesOf (wor ns tip cs time):=⟨_,rfl⟩
   obtain ⟨⟨bk,bf⟩,hbk⟩:∃ p,p=replay l:=⟨_,rfl⟩
   rw [← hl] at hL hB;rw [← hh] at hH;rw [← hbk] at hB
   subst hL;subst hB;subst hH
   have HG:=Lib.hid hg;have HL:=Lib.hid hl;have HH:=Lib.hid hh;have HBK:=Lib.hid hbk
   have hbl:b1≤60:=by have h1:=s1.len;have h2:=hg.logLen;rw [← hl] at h2;simp at h1;omega
   have hbh:b2≤9223372036854775807:=by
    have h1:=s2.len
    have h2:h.length≤60:=by
     rw [hh];unfold holesOf
     refine Nat.le_trans (List.length_filter_le _ _) ?_
     rw [List.length_range]
     have:=tail_le (cs:=(nodAt (wor ns tip cs time).n 0).u.cells);have:=(hg.unitOk (k:=0) (by omega)).len;omega
    simp at h1;omega
   have hgb:GoodB bk:=by have:=says_good (l:=l);rw [← hbk] at this;exact this
   have hn4:n4≤9223372036854775807:=by have h1:=s4.len;have:=hgb.nj;simp at h1;omega
   have hn5:n5≤9223372036854775807:=by have h1:=s5.len;have:=hgb.nr;simp at h1;omega
   have N4:=Lib.hid hn4;have N5:=Lib.hid hn5;have NH:=Lib.hid hbh
   have hbl':b1≤9223372036854775807:=by omega
   have NL:=Lib.hid hbl'
   clear hg hl hh hbk hgb hn4 hn5 hbh hbl hbl' HQ HLQ HBQ HHQ
   have x0:=X.at_ 0 rfl;have x1:=X.at_ 1 rfl;have x2:=X.at_ 2 rfl;have x3:=X.at_ 3 rfl
   go_wp2_with fail
   refine Calls.mono (RLogOf_calls A n c tip C m d time ns cs _ R HG.out) ?_
   rw [← HL.out]
   rintro e w8 ⟨B3,b3,y3,rfl,s3,_,ob⟩
   replace on:=on.to ob;replace X:=X.onto ob;replace R:=R.onto ob;replace s1:=s1.onto ob;replace s2:=s2.onto ob;replace s4:=s4.onto ob;replace s5:=s5.onto ob;replace Y:=Y.onto ob
   clear ob x0 x1 x2 x3
   go_wp2_with fail
   refine Calls.mono (RBookOf_calls B3 b3 y3 _ l _ s3 (Nat.le_refl _)) ?_
   rw [← HBK.out]
   rintro e w9 ⟨A6,n6,c6,A7,n7,c7,rfl,s6,s7,ob,_,_,_,_⟩
   replace ob:Onto w8 w9:=ob
   replace s6:S w9 3 A6 n6 (bk.jobs.map encJ):=s6
   replace s7:S w9 3 A7 n7 (bk.rung.map encR):=s7
   replace on:=on.to ob;replace X:=X.onto ob;replace R:=R.onto ob;replace s1:=s1.onto ob;replace s2:=s2.onto ob;replace s4:=s4.onto ob;replace s5:=s5.onto ob;replace Y:=Y.onto ob
   clear ob s3
   go_upto_region 8 with fail
   refine wp_box1 (v1:=[.slice A6 n6 c6,.slice A7 n7 c7]) rfl fun w10 ob Z=>?_
   replace on:=on.to ob;replace X:=X.onto ob;replace R:=R.onto ob;replace s1:=s1.onto ob;replace s2:=s2.onto ob;replace s4:=s4.onto ob;replace s5:=s5.onto ob;replace Y:=Y.onto ob;replace s6:=s6.onto ob;replace s7:=s7.onto ob
   generalize w9.heap.size=zz at Z ⊢
   clear ob
   have x0:=X.at_ 0 rfl;have x1:=X.at_ 1 rfl;have x2:=X.at_ 2 rfl;have x3:=X.at_ 3 rfl
   go_wp2_with fail
   refine Calls.mono (RLogOf_calls A n c tip C m d time ns cs _ R HG.out) ?_
   rw [← HL.out]
   rintro e w11 ⟨B3,b3,y3,rfl,s3,_,ob⟩
   replace on:=on.to ob;replace X:=X.onto ob;replace R:=R.onto ob;replace s1:=s1.onto ob;replace s2:=s2.onto ob;replace s4:=s4.onto ob;replace s5:=s5.onto ob;replace Y:=Y.onto ob;replace s6:=s6.onto ob;replace s7:=s7.onto ob;replace Z:=Z.onto ob
   clear ob x0 x1 x2 x3
   go_wp2_with fail
   refine Calls.mono (EqualE_calls B1 B3 b1 b3 y1 y3 _ l l _ s1 s3 NL.out) ?_
   rintro e w12 ⟨rfl,qd,rfl⟩
   have ob:=(Onto.rfl' w11).draws qd
   generalize w11.drewN qd=w12 at ob ⊢
   replace on:=on.to ob;replace X:=X.onto ob;replace R:=R.onto ob;replace s2:=s2.onto ob;replace s4:=s4.onto ob;replace s5:=s5.onto ob;replace Y:=Y.onto ob;replace s6:=s6.onto ob;replace s7:=s7.onto ob;replace Z:=Z.onto ob
   clear ob s1 s3
   have y0:=Y.at_ 0 rfl;have y1:=Y.at_ 1 rfl;have z0:=Z.at_ 0 rfl;have z1:=Z.at_ 1 rfl
   rw [decide_eq_true (rfl:l=l)]
   go_wp2_with fail
   refine Calls.mono (RBSame_calls A4 A5 A6 A7 n4 c4 n5 c5 n6 c6 n7 c7 _ bk.jobs bk.jobs bk.rung bk.rung _ s4 s5 s6 s7 (Nat.le_refl _) N4.out N5.out) ?_
   rw [decide_eq_true (rfl:(⟨bk.jobs,bk.rung⟩:Book)=⟨bk.jobs,bk.rung⟩)]
   rintro e w13 ⟨rfl,ob⟩
   replace ob:Onto w12 w13:=ob
   replace on:=on.to ob;replace X:=X.onto ob;replace R:=R.onto ob;replace s2:=s2.onto ob
   clear ob s4 s5 s6 s7 y0 y1 z0 z1 Y Z
   have x0:=X.at_ 0 rfl;have x1:=X.at_ 1 rfl;have x2:=X.at_ 2 rfl;have x3:=X.at_ 3 rfl
   go_wp2_with fail
   refine Calls.mono (RHolesOf_calls A n c tip C m d time ns cs _ R HG.out) ?_
   rw [← HH.out]
   rintro e w14 ⟨B4,b4,y4,rfl,s8,_,ob⟩
   replace on:=on.to ob;replace s2:=s2.onto ob
   clear ob x0 x1 x2 x3 X R
   replace s2:S w14 1 B2 b2 ((h.map (fun k:Nat=>(k:Int))).map encI):=by rw [← holes_ints];exact s2
   replace s8:S w14 1 B4 b4 ((h.map (fun k:Nat=>(k:Int))).map encI):=by rw [← holes_ints];exact s8
   go_wp2_with fail
   refine Calls.mono (EqualI_calls B2 B4 b2 b4 y2 y4 _ (h.map (fun k:Nat=>(k:Int))) (h.map (fun k:Nat=>(k:Int))) _ s2 s8 NH.out) ?_
   rintro e w15 ⟨rfl,qd,rfl⟩
   rw [decide_eq_true (rfl:h.map (fun k:Nat=>(k:Int))=h.map (fun k:Nat=>(k:Int)))]
   replace on:=on.draws qd
   clear s2 s8
   go_wp2_with fail
   go_ret
   exact ⟨rfl,on⟩
 · have hL:Lq=([],q):=by rw [HLQ.out];unfold logW;rw [if_pos (by rw [← HQ.out];exact hq0),← HQ.out]
   have hB:Bq=(Book.none,q):=by rw [HBQ.out];unfold bookW;rw [if_pos (by rw [← HQ.out];exact hq0),← HQ.out]
   have hH:Hq=([],q):=by rw [HHQ.out];unfold holesW;rw [if_pos (by rw [← HQ.out];exact hq0),← HQ.out]
   subst hL;subst hB;subst hH
   obtain rfl:b1=0:=by have:=s1.len;simpa using this.symm
   obtain rfl:b2=0:=by have:=s2.len;simpa using this.symm
   obtain rfl:n4=0:=by have:=s4.len;simpa [Book.none] using this.symm
   obtain rfl:n5=0:=by have:=s5.len;simpa [Book.none] using this.symm
   have hqd:(q !=0)=true:=by simpa using hq0
   clear HLQ HBQ HHQ HQ hq0 s1 s2 X R
   go_wp2_with fail
   refine Calls.mono (told_calls _ (E.onto on)) ?_
   rintro e w8 ⟨rfl,ob⟩
   replace on:=on.to ob;replace Y:=Y.onto ob
   clear ob
   have y0:=Y.at_ 0 rfl;have y1:=Y.at_ 1 rfl
   go_wp2_with fail
   refine Calls.mono (RBSame_calls A4 A5 none none 0 c4 0 c5 0 0 0 0 0 [] [] [] [] _ Sl.nil Sl.nil Sl.nil Sl.nil (Nat.zero_le _) (by omega) (by omega)) ?_
   rintro e w9 ⟨rfl,ob⟩
   replace ob:Onto w8 w9:=ob
   replace on:=on.to ob
   rw [decide_eq_true (rfl:(⟨[],[]⟩:Book)=⟨[],[]⟩)]
   clear ob y0 y1 Y s4 s5
   go_wp2_with fail
   go_ret
   exact ⟨rfl,on⟩
end
section
open Go.RowKit Go.ChangeShapes Go.WideShapes Go.ChangeAt
set_option maxRecDepth 100000 in
theorem storySays_lifted (os : Os) (started : os.Started) (H : Type) (enc : TypeId × Value → H) :
    ReturnsInHanded {} Tryz.checked os 3 .any (fun w args=>(Rows.storySaysSpec.pre enc Tryz.prog Tryz.f3 Rows.storySaysRow.domain false w args∧laidMetH Tryz.prog Rows.storySaysRow.laid w)∧sizedMet enc Tryz.prog Tryz.f3 (OpenSpec.ofChange Rows.storySaysSpec) false w args)
     (Rows.storySaysSpec.post enc Tryz.prog Tryz.f3 false true false false):=by
 refine handed_shaped (C:=Tryz.checked) (X:=fun w _=>laidMetH Tryz.prog Rows.storySaysRow.laid w) (fun _ _ _ hh h=>h.of_heap hh) own started (by kernel_rfl) Tryz.func3
  (ChangeSpec.witness_shaped (enc:=enc) (C:=Tryz.checked) (os:=os) (X:=fun w _=>laidMetH Tryz.prog Rows.storySaysRow.laid w) false (World.laidAll Tryz.prog os Rows.storySaysRow.laid) #[.agg #[.slice none 0 0,.int .i64 0,.slice none 0 0,.int .i64 0]] 8 (World.laidAll_os _ _ _)
   (World.shaped_of_ZipB (by kernel_rfl) (by kernel_rfl)) (by kernel_rfl) (by kernel_rfl) (by kernel_rfl)
   (by rw [MakeChecks.laidMetH_plain _ _ _ (by kernel_rfl)];exact laidMet_laidAll _ (by kernel_rfl) (by kernel_rfl))) ?_
 intro W base args ds gs before hval0 hW hsz0 hL hS
 rw [MakeChecks.laidMetH_plain _ _ _ (by kernel_rfl)] at hL
 have E:Env W:=env_of hL hS
 clear hL hS
 have hval:∀ (j:Nat) t v,Tryz.f3.params[j]?=some t→args[j]?=some v→Value.okWide Tryz.prog W .any base t v:=hval0
 have hW':=hW
 obtain ⟨p,q,hA0,hV,rfl,hfz,hnd⟩:=hW
 have hA:DataW.TrodAll enc Tryz.prog W 0 (fun _=>true) true Tryz.f3.params.toList args.toList ds p:=hA0
 rw [Tryz.params3] at hA hval
 obtain ⟨v0,vs0,d0,ds0,p0,q0,hargs,rfl,rfl,h0,r0⟩:=trodAll_cons hA
 obtain ⟨rfl,rfl,rfl⟩:=trodAll_nil r0
 obtain rfl:args=#[v0]:=by cases args;simp_all
 obtain ⟨rfl,rfl⟩:=trodVars_none hV
 have hall:=hA
 obtain ⟨cv0,rfl,_⟩:=okWide_struct Tryz.underlying25 (hval 0 25 v0 rfl rfl)
 obtain ⟨A0,n0,c0,tip0,C0,m0,d0,time0,nv0,kv0,e0,_,_,_,_,R0⟩:=reads_world (reads_of h0)
 obtain rfl:cv0=#[.slice A0 n0 c0,.int .i64 tip0,.slice C0 m0 d0,.int .i64 time0]:=by cases cv0;simpa [Value.cells] using e0
 clear hA0 hval0
 refine (StorySays_calls A0 n0 c0 tip0 C0 m0 d0 time0 nv0 kv0 W E R0).mono fun e W' ⟨he,bel⟩=>?_
 subst he
 exact ⟨_,rfl,_,_,_,[],_,[],hW',trodAll_mk1 (shut_bool Tryz.underlying4 _),Below_trodAll (ts:=[25]) laidOut bel (by intro t ht;simp only [List.mem_cons,List.not_mem_nil,or_false] at ht;rcases ht with rfl <;> exact ⟨by kernel_rfl,of_decide_eq_true (by kernel_rfl)⟩) hall,rfl,bel.frame _,fun h=>by cases h⟩
theorem storySays_row:Rows.StorySaysSaid :=
 OpenClaim.holds_of_wide 3 Tryz.f3 rfl rfl rfl rfl rfl rfl rfl ⟨rfl,rfl,rfl,rfl,rfl⟩ rfl rfl rfl rfl rfl (by kernel_rfl) Tryz.func3 (by kernel_rfl)
  (of_decide_eq_true (by kernel_rfl)) (by unfold Func.isWrapper;first | (rw [if_pos (by decide +kernel)];kernel_rfl) | (rw [if_neg (by decide +kernel)];exact ⟨rfl,rfl⟩))
  (fun os started H enc _=>storySays_lifted os started H enc)
theorem storySays_holds : Rows.StorySaysCardSaid :=
 Claim7.holds_tied_plain_at .later [] [.data,.data,.data,.data,.sentinel,.sentinel,.pinned] true Rows.storySaysCard.stood.harness true storySays_row (fun _ h=>by cases h) (by kernel_rfl) (fun _ h=>by cases h) storySays_row_tie rfl ⟨rfl,rfl⟩ (by kernel_rfl) rfl
  (fun f fn hf hfn=>by
   obtain rfl:f=3:=Option.some.inj ((show Tryz.prog.funcNamed "carillon/carillonlaw.StorySays"=some 3 by kernel_rfl).symm.trans hf) |>.symm
   obtain rfl:fn=Tryz.f3:=(Option.some.inj (Tryz.func3.symm.trans hfn)).symm
   exact ⟨by kernel_rfl,fun j t ht=>by
    rw [Tryz.params3] at ht
    have hm:t∈[25]:=by simpa using Array.mem_of_getElem? ht
    have hall:([25].all fun u=>!Tryz.prog.wantsStandIn u)=true:=by kernel_rfl
    exact (show Tryz.prog.wantsStandIn t=false by simpa using List.all_eq_true.1 hall t hm)⟩)
  (by kernel_rfl)
end
end Go.Proofs.YtidlffepdcldkaaGreatDoor
