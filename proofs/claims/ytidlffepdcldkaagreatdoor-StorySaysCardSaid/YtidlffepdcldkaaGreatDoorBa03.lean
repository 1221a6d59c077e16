/- Part 3 of the proof: Text, Text2, Text3, Str, Byte, AppStr. -/
import Derived.Test.YtidlffepdcldkaaGreatDoorBa02
import Derived.Lib.SplitLaws
import Derived.Lib.ItoaLen
import Derived.Lib.AtoiAllCases
import Derived.Test.YtidlffepdcldkaaGreatDoorShelf
import Derived.Lib.ParseIntBTie
import Derived.Laws.BytesArg
import Derived.Lib.AppendStr
import Derived.Deep.RegionHeld3
import Derived.Deep.DrawnRows
namespace Go.Proofs.YtidlffepdcldkaaGreatDoor
set_option linter.unusedSimpArgs false
set_option linter.unusedVariables false
section
/-! ### A text in pieces,at each c -/
def cutc (c:UInt8):List UInt8→List (List UInt8)
 | []=>[[]]
 | b ::l=>if b=c then [] ::cutc c l else (b ::(cutc c l).headD []) ::(cutc c l).tail
def joinc (c:UInt8):List (List UInt8)→List UInt8
 | []=>[]
 | [p]=>p
 | p ::q ::r=>p ++c ::joinc c (q ::r)
theorem cutc_ne (c:UInt8) (l:List UInt8):cutc c l≠[]:=by
 cases l with
 | nil=>simp [cutc]
 | cons b l=>unfold cutc;split <;> simp
theorem cutc_eta (c:UInt8) (l:List UInt8):cutc c l=(cutc c l).headD [] ::(cutc c l).tail:=by
 have:=cutc_ne c l
 cases h:cutc c l with
 | nil=>exact absurd h this
 | cons a t=>rfl
theorem cutc_self {c:UInt8}:∀ {p:List UInt8},c∉p→cutc c p=[p]
 | [],_=>rfl
 | b ::p,h=>by
   have h1:b≠c:=fun e=>h (by simp [e])
   have h2:c∉p:=fun e=>h (by simp [e])
   rw [cutc,if_neg h1,cutc_self h2];rfl
theorem cutc_append {c:UInt8} {s:List UInt8}:∀ {p:List UInt8},c∉p→cutc c (p ++c ::s)=p ::cutc c s
 | [],_=>by simp [cutc]
 | b ::p,h=>by
   have h1:b≠c:=fun e=>h (by simp [e])
   have h2:c∉p:=fun e=>h (by simp [e])
   rw [List.cons_append,cutc,if_neg h1,cutc_append h2];rfl
theorem cutc_joinc {c:UInt8}:∀ {ws:List (List UInt8)},ws≠[]→(∀ w∈ws,c∉w)→cutc c (joinc c ws)=ws
 | [],h,_=>absurd rfl h
 | [p],_,h=>cutc_self (h p (by simp))
 | p ::q ::r,_,h=>by
   rw [joinc,cutc_append (h p (by simp)),cutc_joinc (by simp) (fun w hw=>h w (by simp at hw ⊢;exact Or.inr hw))]
theorem joinc_cons {c:UInt8} {p:List UInt8} {ps:List (List UInt8)} (h:ps≠[]):joinc c (p ::ps)=p ++c ::joinc c ps:=by
 cases ps with
 | nil=>exact absurd rfl h
 | cons q r=>rfl
theorem joinc_cutc (c:UInt8):∀ l:List UInt8,joinc c (cutc c l)=l
 | []=>rfl
 | b ::l=>by
   have ih:=joinc_cutc c l
   rw [cutc]
   split
   · rename_i h
     rw [joinc_cons (cutc_ne c l),ih,h];rfl
   · rw [cutc_eta] at ih
     cases ht:(cutc c l).tail with
     | nil=>rw [ht] at ih;simp only [joinc] at ih ⊢;rw [ih]
     | cons q r =>
       rw [ht] at ih
       simp only [joinc] at ih ⊢
       rw [List.cons_append,ih]
theorem cutc_mem {c:UInt8}:∀ {l p:List UInt8},p∈cutc c l→c∉p
 | [],p,h=>by simp [cutc] at h;simp [h]
 | b ::l,p,h=>by
   rw [cutc] at h
   split at h
   · rename_i hb
     rcases List.mem_cons.1 h with rfl | h
     · simp
     · exact cutc_mem h
   · rename_i hb
     rcases List.mem_cons.1 h with rfl | h
     · have hh:(cutc c l).headD []∈cutc c l:=by rw [cutc_eta];simp
       have:=cutc_mem hh
       simp only [List.mem_cons,not_or]
       exact ⟨fun e=>hb e.symm,this⟩
     · exact cutc_mem (List.mem_of_mem_tail h)
theorem split_one (c:UInt8):∀ s:List UInt8,Lib.split s [c]=cutc c s
 | []=>by unfold Lib.split;rw [Lib.count_one];rfl
 | b ::l=>by
   have ih:=split_one c l
   unfold Lib.split at ih ⊢
   rw [cutc]
   by_cases h:b=c
   · subst h
     rw [if_pos rfl,Lib.count_cons_eq,Nat.add_comm 1,Lib.splitK]
     have hix:Lib.index (b ::l) [b]=0:=by rw [Lib.index];simp [List.isPrefixOf]
     rw [hix,if_neg (by decide)]
     show _=[] ::_
     rw [← ih];rfl
   · rw [if_neg h,Lib.count_cons_ne b c l h,← ih]
     cases hk:Lib.count l [c] with
     | zero=>rfl
     | succ k =>
       have hne:Lib.index l [c]≠-1:=fun e=>by rw [Lib.count_miss e] at hk;cases hk
       have hge:=Lib.index_ge l [c]
       have hp:([c]:List UInt8).isPrefixOf (b ::l)=false:=by simp [List.isPrefixOf,Ne.symm h]
       have hix:Lib.index (b ::l) [c]=Lib.index l [c]+1:=by rw [Lib.index,hp];simp [hne]
       rw [Lib.splitK,Lib.splitK,hix,if_neg (by simpa using (by omega:¬ Lib.index l [c]+1=-1)),if_neg (by simpa using hne)]
       obtain ⟨j,hj⟩:∃ j:Nat,Lib.index l [c]=j:=⟨(Lib.index l [c]).toNat,by omega⟩
       rw [hj,show (((j:Nat):Int)+1).toNat=j+1 by omega,show ((j:Nat):Int).toNat=j by omega]
       rfl
/-! ### Whole numbers -/
def num (t:List UInt8):Option Int :=
 match Lib.atoiAll t with
 | .ok v=>if Lib.itoa v=t then some v else none
 | _=>none
theorem num_some {t:List UInt8} {v:Int} (h:num t=some v):t=Lib.itoa v∧-9223372036854775808≤v∧v≤9223372036854775807:=by
 unfold num at h
 split at h
 · rename_i u hu
   split at h
   · rename_i e
     injection h with h
     subst h
     exact ⟨e.symm,Lib.atoiAll_bounds hu⟩
   · cases h
 · cases h
theorem toNat_dig {k:Nat} (h:k<10):(UInt8.ofNat (48+k)).toNat=48+k:=by
 rw [UInt8.toNat_ofNat'];omega
theorem dec_digit:∀ (u:Nat) (b:UInt8),b∈Lib.decDigits u→48≤b.toNat∧b.toNat≤57:=by
 intro u
 induction u using Nat.strongRecOn with
 | _ u ih =>
   intro b hb
   rw [Lib.decDigits] at hb
   split at hb
   · rename_i h
     rw [List.mem_singleton.1 hb,toNat_dig h]
     omega
   · rename_i h
     rcases List.mem_append.1 hb with hb | hb
     · exact ih (u / 10) (by omega) b hb
     · rw [List.mem_singleton.1 hb,toNat_dig (by omega)]
       omega
theorem dec_ne (u:Nat):Lib.decDigits u≠[]:=by
 rw [Lib.decDigits];split <;> simp
theorem parse_append:∀ (l r:List UInt8) (acc a:Nat),Lib.parseUint10 acc l=.ok a→Lib.parseUint10 acc (l ++r)=Lib.parseUint10 a r
 | [],r,acc,a,h=>by simp only [Lib.parseUint10] at h;injection h with h;rw [h];rfl
 | c ::l,r,acc,a,h=>by
   simp only [Lib.parseUint10,List.cons_append] at h ⊢
   split at h
   · rename_i h1
     rw [if_pos h1]
     split at h
     · cases h
     · rename_i h2
       rw [if_neg h2]
       split at h
       · cases h
       · rename_i h3
         rw [if_neg h3]
         exact parse_append l r _ a h
   · cases h
theorem parse_dec:∀ (u:Nat),u<9223372036854775808→Lib.parseUint10 0 (Lib.decDigits u)=.ok u:=by
 intro u
 induction u using Nat.strongRecOn with
 | _ u ih =>
   intro hu
   rw [Lib.decDigits]
   split
   · rename_i h
     have e:(UInt8.ofNat (48+u)).toNat=48+u:=toNat_dig h
     simp only [Lib.parseUint10,e]
     rw [if_pos (by omega),if_neg (by omega),if_neg (by omega)]
     congr 1;omega
   · rename_i h
     rw [parse_append _ _ _ _ (ih (u / 10) (by omega) (by omega))]
     have e:(UInt8.ofNat (48+u % 10)).toNat=48+u % 10:=toNat_dig (by omega)
     simp only [Lib.parseUint10,e]
     rw [if_pos (by omega),if_neg (by omega),if_neg (by omega)]
     congr 1;omega
theorem itoa_dec {n:Int} (h:0≤n):Lib.itoa n=Lib.decDigits n.toNat:=by unfold Lib.itoa;rw [if_neg (by omega)]
theorem itoa_digit {n:Int} (h:0≤n) {b:UInt8} (hb:b∈Lib.itoa n):48≤b.toNat∧b.toNat≤57:=by
 rw [itoa_dec h] at hb;exact dec_digit _ b hb
theorem itoa_ne {n:Int} (h:0≤n):Lib.itoa n≠[]:=by rw [itoa_dec h];exact dec_ne _
theorem itoa_no {n:Int} (h:0≤n) {c:UInt8} (hc:c.toNat<48∨57<c.toNat):c∉Lib.itoa n:=fun hb=>by
 have:=itoa_digit h hb;omega
theorem num_itoa {n:Int} (h:0≤n) (h2:n<9223372036854775808):num (Lib.itoa n)=some n:=by
 have e:Lib.atoiAll (Lib.itoa n)=.ok n:=by
  have hd:=itoa_dec h
  cases hl:Lib.itoa n with
  | nil=>exact absurd hl (itoa_ne h)
  | cons c r =>
    have hc:=itoa_digit h (b:=c) (by rw [hl];simp)
    rw [Lib.atoiAll_plain c r (by omega) (by omega),← hl,hd]
    have hp:Lib.parseMag (Lib.decDigits n.toNat)=.ok n.toNat:=by
     unfold Lib.parseMag
     rw [if_neg (dec_ne _),parse_dec _ (by omega)]
    rw [hp]
    unfold Lib.signless
    simp only
    rw [if_neg (by omega)]
    congr 1;omega
 unfold num
 rw [e]
 simp
/-! ### Entries -/
def junkW:List UInt8:=[106,117,110,107]
def putW:List UInt8:=[112,117,116]
def dropW:List UInt8:=[100,114,111,112]
def ringW:List UInt8:=[114,105,110,103]
def numsE (x:Entry):List Int:=if x.kind=1 then [x.job,x.every,x.time] else if x.kind=2 then [x.job] else if x.kind=3 then [x.job,x.time,x.client] else []
def headE (x:Entry):List UInt8:=if x.kind=1 then putW else if x.kind=2 then dropW else if x.kind=3 then ringW else junkW
def tailB (l:List Int):List UInt8:=(l.map fun n=>32 ::Lib.itoa n).flatten
def textE (x:Entry):List UInt8:=headE x ++tailB (numsE x)
def printE (x:Entry):List UInt8 × Int:=if checkE x≠0 then ([],checkE x) else (textE x,0)
def kindW (w:List UInt8):Option (Int × Nat):=if w=junkW then some (0,0) else if w=putW then some (1,3) else if w=dropW then some (2,1) else if w=ringW then some (3,3) else none
def numsL:List (List UInt8)→Option (List Int)
 | []=>some []
 | t ::l=>match num t with
   | some v=>(match numsL l with
     | some r=>some (v ::r)
     | none=>none)
   | none=>none
def entE (k:Int) (l:List Int):Entry:=⟨k,l.getD 0 0,if k=1 then l.getD 1 0 else 0,if k=1 then l.getD 2 0 else if k=3 then l.getD 1 0 else 0,if k=3 then l.getD 2 0 else 0⟩
def readWs (ws:List (List UInt8)):Entry × Int :=
 match kindW (ws.headD []) with
 | none=>(zeroE,1)
 | some (k,many) =>
   if ws.tail.length≠many then (zeroE,1) else
   match numsL ws.tail with
   | none=>(zeroE,1)
   | some l=>if checkE (entE k l)≠0 then (zeroE,checkE (entE k l)) else (entE k l,0)
def parseE (s:List UInt8):Entry × Int:=if 30000<s.length then (zeroE,2) else readWs (cutc 32 s)
theorem numsL_some:∀ {ts:List (List UInt8)} {l:List Int},numsL ts=some l→ts=l.map Lib.itoa
 | [],l,h=>by simp [numsL] at h;simp [← h]
 | t ::ts,l,h=>by
   simp only [numsL] at h
   cases hn:num t with
   | none=>rw [hn] at h;cases h
   | some v =>
     rw [hn] at h
     cases hr:numsL ts with
     | none=>rw [hr] at h;cases h
     | some r =>
       rw [hr] at h
       injection h with h
       subst h
       rw [List.map_cons,← numsL_some hr,← (num_some hn).1]
theorem numsL_itoa:∀ {l:List Int},(∀ n∈l,0≤n∧n<9223372036854775808)→numsL (l.map Lib.itoa)=some l
 | [],_=>rfl
 | n ::l,h=>by
   rw [List.map_cons,numsL,num_itoa (h n (by simp)).1 (h n (by simp)).2,numsL_itoa (fun m hm=>h m (by simp [hm]))]
theorem tailB_join (w:List UInt8):∀ l:List Int,w ++tailB l=joinc 32 (w ::l.map Lib.itoa)
 | []=>by simp [tailB,joinc]
 | n ::l=>by
   have:=tailB_join (Lib.itoa n) l
   rw [List.map_cons,joinc,← this]
   simp [tailB]
theorem numsE_bounds {x:Entry} (h:checkE x=0):∀ n∈numsE x,0≤n∧n<9223372036854775808:=by
 intro n hn
 unfold checkE at h
 split at h
 · cases h
 · split at h
   · cases h
   · rename_i h2
     unfold numsE at hn
     (repeat' split at hn) <;> simp at hn <;> omega
theorem tailB_len (l:List Int) (h:∀ n∈l,-9223372036854775808≤n∧n≤9223372036854775807):(tailB l).length≤22*l.length:=by
 induction l with
 | nil=>simp [tailB]
 | cons n l ih =>
   have h1:=Lib.itoa_length_le n (h n (by simp)).1 (h n (by simp)).2
   have h2:=ih (fun m hm=>h m (by simp [hm]))
   unfold tailB at h2 ⊢
   simp only [List.map_cons,List.flatten_cons,List.length_append,List.length_cons]
   omega
theorem textE_len {x:Entry} (h:checkE x=0):(textE x).length≤70:=by
 have h1:=tailB_len (numsE x) (fun n hn=>by have:=numsE_bounds h n hn;omega)
 have h2:(headE x).length≤4:=by unfold headE;(repeat' split) <;> decide
 have h3:(numsE x).length≤3:=by unfold numsE;(repeat' split) <;> simp
 unfold textE
 rw [List.length_append];omega
theorem headE_no (x:Entry) {c:UInt8} (h:c∈headE x):100≤c.toNat:=by
 unfold headE at h
 have a1:∀ c∈putW,100≤c.toNat:=by decide
 have a2:∀ c∈dropW,100≤c.toNat:=by decide
 have a3:∀ c∈ringW,100≤c.toNat:=by decide
 have a4:∀ c∈junkW,100≤c.toNat:=by decide
 (repeat' split at h) <;> first | exact a1 c h | exact a2 c h | exact a3 c h | exact a4 c h
theorem cut_textE {x:Entry} (h:checkE x=0):cutc 32 (textE x)=headE x ::(numsE x).map Lib.itoa:=by
 unfold textE
 rw [tailB_join,cutc_joinc (by simp)]
 intro w hw
 rcases List.mem_cons.1 hw with rfl | hw
 · exact fun hc=>by have:=headE_no x hc;simp at this
 · obtain ⟨n,hn,rfl⟩:=List.mem_map.1 hw
   exact itoa_no (numsE_bounds h n hn).1 (by decide)
theorem read_textE {x:Entry} (h:checkE x=0):readWs (cutc 32 (textE x))=(x,0):=by
 rw [cut_textE h]
 have hb:=numsL_itoa (numsE_bounds h)
 obtain ⟨k,j,v,t,c⟩:=x
 have hk:k=0∨k=1∨k=2∨k=3:=by
  unfold checkE at h
  split at h
  · cases h
  · simp at *;omega
 have key:entE k (numsE ⟨k,j,v,t,c⟩)=⟨k,j,v,t,c⟩:=by
  unfold checkE at h
  dsimp only at h
  rcases hk with rfl | rfl | rfl | rfl <;> simp [entE,numsE] <;> simp at h <;> omega
 unfold readWs
 simp only [List.headD_cons,List.tail_cons,List.length_map]
 rcases hk with rfl | rfl | rfl | rfl
 all_goals
  rw [show kindW _=some _ from rfl]
  simp only
  rw [if_neg (by simp [numsE]),hb]
  simp only
  rw [key,if_neg (by simp [h])]
theorem readWs_ok {s:List UInt8} {z:Entry} (h:readWs (cutc 32 s)=(z,0)):checkE z=0∧textE z=s:=by
 unfold readWs at h
 cases hk:kindW ((cutc 32 s).headD []) with
 | none=>rw [hk] at h;simp at h
 | some km =>
   obtain ⟨k,many⟩:=km
   rw [hk] at h
   simp only at h
   by_cases hm:(cutc 32 s).tail.length≠many
   · rw [if_pos hm] at h;simp at h
   · rw [if_neg hm] at h
     have hm:=Decidable.not_not.1 hm
     cases hn:numsL (cutc 32 s).tail with
     | none=>rw [hn] at h;simp at h
     | some l =>
       rw [hn] at h
       simp only at h
       by_cases hc:checkE (entE k l)≠0
       · rw [if_pos hc] at h
         simp only [Prod.mk.injEq] at h
         exact absurd h.2 hc
       · rw [if_neg hc] at h
         simp only [Prod.mk.injEq] at h
         have hc:=Decidable.not_not.1 hc
         obtain ⟨rfl,_⟩:=h
         refine ⟨hc,?_⟩
         have ht:=numsL_some hn
         have hs:s=joinc 32 ((cutc 32 s).headD [] ::l.map Lib.itoa):=by rw [← ht,← cutc_eta,joinc_cutc]
         rw [← tailB_join] at hs
         rw [ht,List.length_map] at hm
         unfold kindW at hk
         split at hk
         · rename_i e;injection hk with hk;simp only [Prod.mk.injEq] at hk;obtain ⟨rfl,rfl⟩:=hk
           rw [e] at hs;rw [hs]
           match l,hm with
           | [],_=>rfl
         · split at hk
           · rename_i e;injection hk with hk;simp only [Prod.mk.injEq] at hk;obtain ⟨rfl,rfl⟩:=hk
             rw [e] at hs;rw [hs]
             match l,hm with
             | [a,b,c],_=>rfl
           · split at hk
             · rename_i e;injection hk with hk;simp only [Prod.mk.injEq] at hk;obtain ⟨rfl,rfl⟩:=hk
               rw [e] at hs;rw [hs]
               match l,hm with
               | [a],_=>rfl
             · split at hk
               · rename_i e;injection hk with hk;simp only [Prod.mk.injEq] at hk;obtain ⟨rfl,rfl⟩:=hk
                 rw [e] at hs;rw [hs]
                 match l,hm with
                 | [a,b,c],_=>rfl
               · cases hk
end
section
/-! ### Records -/
def sealW:List UInt8:=[115,101,97,108,32]
def colonW:List UInt8:=[58,32]
def textR (r:Rec):List UInt8:=if r.kind=2 then sealW ++Lib.itoa r.epoch else Lib.itoa r.at_ ++colonW ++textE r.e
def printR (r:Rec):List UInt8 × Int:=if checkR r≠0 then ([],checkR r) else (textR r,0)
def finR (r:Rec):Rec × Int:=if checkR r≠0 then (zeroR,checkR r) else (r,0)
def readR (s:List UInt8):Rec × Int :=
 if sealW.isPrefixOf s then
  match num (s.drop 5) with
  | none=>(zeroR,1)
  | some n=>finR ⟨2,0,n,zeroE⟩
 else if (Lib.cut s colonW).2.2=false then (zeroR,1) else
  match num (Lib.cut s colonW).1 with
  | none=>(zeroR,1)
  | some n=>if (readWs (cutc 32 (Lib.cut s colonW).2.1)).2≠0 then (zeroR,(readWs (cutc 32 (Lib.cut s colonW).2.1)).2) else finR ⟨1,n,0,(readWs (cutc 32 (Lib.cut s colonW).2.1)).1⟩
def parseR (s:List UInt8):Rec × Int:=if 30000<s.length then (zeroR,2) else readR s
theorem cut_app:∀ {a:List UInt8} (b:List UInt8),58∉a→Lib.index (a ++58 ::32 ::b) colonW=(a.length:Int)
 | [],b,_=>by rw [List.nil_append,Lib.index];rfl
 | c ::a,b,h=>by
   have h1:c≠58:=fun e=>h (by simp [e])
   have h2:(58:UInt8)∉a:=fun e=>h (by simp [e])
   rw [List.cons_append,Lib.index,cut_app b h2]
   have hp:colonW.isPrefixOf (c ::(a ++58 ::32 ::b))=false:=by simp [colonW,List.isPrefixOf,Ne.symm h1]
   rw [hp]
   simp only [Bool.false_eq_true,if_false,List.length_cons]
   have:((a.length:Int) ==-1)=false:=by rw [beq_eq_false_iff_ne];omega
   rw [this]
   simp
theorem cut_colon {a:List UInt8} (b:List UInt8) (h:58∉a):Lib.cut (a ++colonW ++b) colonW=(a,b,true):=by
 have e:a ++colonW ++b=a ++58 ::32 ::b:=by simp [colonW]
 rw [e]
 unfold Lib.cut
 rw [cut_app b h,if_pos (by omega)]
 simp [colonW,List.take_append,List.drop_append]
theorem cut_true {s sep:List UInt8} (h:(Lib.cut s sep).2.2=true):s=(Lib.cut s sep).1 ++sep ++(Lib.cut s sep).2.1:=by
 unfold Lib.cut at h ⊢
 split
 · rename_i hi
   rcases Lib.index_spec s sep with ⟨h1,_⟩ | ⟨i,h1,h2,h3,_⟩
   · omega
   · simp only [h1,show ((i:Nat):Int).toNat=i by omega]
     unfold Lib.occAt at h3
     obtain ⟨r,hr⟩:=List.isPrefixOf_iff_prefix.1 h3
     have:s.drop (i+sep.length)=r:=by
      rw [← List.drop_drop,← hr];simp
     rw [this,List.append_assoc,hr,List.take_append_drop]
 · rename_i hi
   rw [if_neg hi] at h
   cases h
theorem cR_write {r:Rec} (h:checkR r=0) (hk:r.kind≠2):r.kind=1∧0≤r.at_∧r.at_<60∧r.epoch=0∧checkE r.e=0:=by
 unfold checkR at h
 by_cases h1:r.kind=1
 · rw [if_pos h1] at h
   split at h
   · cases h
   · split at h
     · cases h
     · rename_i a b
       exact ⟨h1,by omega,by omega,by omega,h⟩
 · rw [if_neg h1,if_neg hk] at h;cases h
theorem cR_seal {r:Rec} (h:checkR r=0) (hk:r.kind=2):1≤r.epoch∧r.epoch≤20∧r.at_=0∧r.e=zeroE:=by
 unfold checkR at h
 rw [if_neg (by omega),if_pos hk] at h
 split at h
 · cases h
 · split at h
   · cases h
   · rename_i a b
     exact ⟨by omega,by omega,by omega,Decidable.not_not.1 fun e=>b (Or.inr e)⟩
theorem textR_len {r:Rec} (h:checkR r=0):(textR r).length≤100:=by
 unfold textR
 split
 · rename_i hk
   obtain ⟨h1,h2,_⟩:=cR_seal h hk
   have:=Lib.itoa_length_le r.epoch (by omega) (by omega)
   rw [List.length_append,show sealW.length=5 from rfl];omega
 · rename_i hk
   obtain ⟨_,h1,h2,_,h3⟩:=cR_write h hk
   have:=Lib.itoa_length_le r.at_ (by omega) (by omega)
   have:=textE_len h3
   simp only [List.length_append,show colonW.length=2 from rfl];omega
theorem seal_no {n:Int} (h:0≤n) (b:List UInt8):sealW.isPrefixOf (Lib.itoa n ++b)=false:=by
 cases hl:Lib.itoa n with
 | nil=>exact absurd hl (itoa_ne h)
 | cons c r =>
   have hc:=itoa_digit h (b:=c) (by rw [hl];simp)
   have:(115:UInt8)≠c:=fun e=>by subst e;simp at hc
   simp [sealW,List.isPrefixOf,this]
theorem read_textR {r:Rec} (h:checkR r=0):readR (textR r)=(r,0):=by
 obtain ⟨k,p,ep,e⟩:=r
 unfold textR
 by_cases hk:k=2
 · obtain ⟨h1,h2,h3,h4⟩:=cR_seal h hk
   dsimp only at h1 h2 h3 h4
   subst hk h3 h4
   rw [if_pos rfl]
   unfold readR
   rw [if_pos (by simp [sealW,List.isPrefixOf])]
   rw [show (sealW ++Lib.itoa ep).drop 5=Lib.itoa ep from rfl,num_itoa (by omega) (by omega)]
   simp only
   unfold finR
   rw [if_neg (by simp [h])]
 · obtain ⟨h0,h1,h2,h3,h4⟩:=cR_write h hk
   dsimp only at h0 h1 h2 h3 h4
   subst h0 h3
   rw [if_neg (by simp)]
   unfold readR
   rw [List.append_assoc,if_neg (by rw [seal_no h1];simp),← List.append_assoc]
   rw [cut_colon _ (itoa_no h1 (by decide))]
   simp only [num_itoa h1 (by omega),read_textE h4]
   unfold finR
   rw [if_neg (by simp),if_neg (by simp),if_neg (by simp [h])]
theorem parse_textR {r:Rec} (h:checkR r=0):parseR (textR r)=(r,0):=by
 have:=textR_len h
 unfold parseR
 rw [if_neg (by omega),read_textR h]
theorem finR_ok {r z:Rec} (h:finR r=(z,0)):checkR z=0∧r=z:=by
 unfold finR at h
 split at h
 · rename_i hc
   simp only [Prod.mk.injEq] at h
   exact absurd h.2 hc
 · rename_i hc
   simp only [Prod.mk.injEq] at h
   exact ⟨h.1 ▸ Decidable.not_not.1 hc,h.1⟩
theorem readR_ok {s:List UInt8} {z:Rec} (h:readR s=(z,0)):checkR z=0∧textR z=s:=by
 unfold readR at h
 split at h
 · rename_i hp
   obtain ⟨t,rfl⟩:=List.isPrefixOf_iff_prefix.1 hp
   rw [show (sealW ++t).drop 5=t from rfl] at h
   cases hn:num t with
   | none=>rw [hn] at h;simp at h
   | some n =>
     rw [hn] at h
     obtain ⟨h1,rfl⟩:=finR_ok h
     exact ⟨h1,by unfold textR;rw [if_pos rfl,← (num_some hn).1]⟩
 · split at h
   · simp at h
   · rename_i hc
     have hc:(Lib.cut s colonW).2.2=true:=by simpa using hc
     have hs:=cut_true hc
     cases hn:num (Lib.cut s colonW).1 with
     | none=>rw [hn] at h;simp at h
     | some n =>
       rw [hn] at h
       simp only at h
       split at h
       · rename_i hb
         simp only [Prod.mk.injEq] at h
         exact absurd h.2 hb
       · rename_i hb
         have hb:=Decidable.not_not.1 hb
         obtain ⟨h1,rfl⟩:=finR_ok h
         refine ⟨h1,?_⟩
         have he:=readWs_ok (s:=(Lib.cut s colonW).2.1) (z:=(readWs (cutc 32 (Lib.cut s colonW).2.1)).1) (by rw [← hb])
         unfold textR
         rw [if_neg (by simp)]
         simp only
         rw [he.2,← (num_some hn).1]
         exact hs.symm
theorem parseR_ok {s:List UInt8} {z:Rec} (h:parseR s=(z,0)):checkR z=0∧textR z=s:=by
 unfold parseR at h
 split at h
 · simp at h
 · exact readR_ok h
end
section
section
variable {α:Type}
def linesP (p:List UInt8→α × Int) (most:Nat) (acc:List α) (n:Nat):List (List UInt8)→List α × Nat × Int
 | []=>(acc,n,0)
 | [t]=>(acc,n,if t=[] then 0 else 9)
 | t ::u ::r=>if (p t).2≠0 then (acc,n,(p t).2) else if most≤acc.length then (acc,n,2) else linesP p most (acc ++[(p t).1]) (n+t.length+1) (u ::r)
theorem linesP_cons {p : List UInt8 → α × Int} {most : Nat} {acc : List α} {n : Nat} {t : List UInt8} {r : List (List UInt8)} (h : r ≠ []) :
    linesP p most acc n (t ::r)=if (p t).2≠0 then (acc,n,(p t).2) else if most≤acc.length then (acc,n,2) else linesP p most (acc ++[(p t).1]) (n+t.length+1) r:=by
 cases r with
 | nil=>exact absurd rfl h
 | cons u r=>rfl
theorem linesP_one {p:List UInt8→α × Int} {most:Nat} {acc:List α} {n:Nat} {t:List UInt8}:linesP p most acc n [t]=(acc,n,if t=[] then 0 else 9):=rfl
def textP (text:α→List UInt8) (l:List α):List UInt8:=(l.map fun x=>text x ++[10]).flatten
theorem textP_cons (text:α→List UInt8) (x:α) (l:List α):textP text (x ::l)=text x ++10 ::textP text l:=by simp [textP]
theorem textP_append (text:α→List UInt8) (l m:List α):textP text (l ++m)=textP text l ++textP text m:=by simp [textP]
theorem cut_textP {text:α→List UInt8} (s:List UInt8):∀ {l:List α},(∀ x∈l,10∉text x)→cutc 10 (textP text l ++s)=l.map text ++cutc 10 s
 | [],_=>rfl
 | x ::l,h=>by
   rw [textP_cons,List.append_assoc,List.cons_append,cutc_append (h x (by simp)),cut_textP s (fun y hy=>h y (by simp [hy]))];rfl
theorem linesP_text {p : List UInt8 → α × Int} {text : α → List UInt8} {most : Nat} {r : List (List UInt8)} (hr : r ≠ []) : ∀ {l : List α} {acc : List α} {n : Nat}, (∀ x ∈ l, p (text x) = (x, 0)) → acc.length + l.length ≤ most →
    linesP p most acc n (l.map text ++r)=linesP p most (acc ++l) (n+(textP text l).length) r
 | [],acc,n,_,_=>by simp [textP]
 | x ::l,acc,n,h,hm=>by
   simp only [List.length_cons] at hm
   rw [List.map_cons,List.cons_append,linesP_cons (by simp [hr]),h x (by simp),if_neg (by simp),if_neg (by omega)]
   rw [linesP_text hr (fun y hy=>h y (by simp [hy])) (by simp;omega),textP_cons]
   simp only [List.length_append,List.length_cons,List.append_assoc,List.singleton_append,List.cons_append,List.nil_append]
   congr 1
   omega
theorem linesP_read {p : List UInt8 → α × Int} {text : α → List UInt8} {ok : α → Prop} {most : Nat} (hp : ∀ t x, p t = (x, 0) → ok x ∧ text x = t) : ∀ {r : List (List UInt8)} {acc l : List α} {n m : Nat} {e : Int}, r ≠ [] → linesP p most acc n r = (l, m, e) → acc.length ≤ most →
    ∃ l' s,l=acc ++l'∧l.length≤most∧(∀ x∈l',ok x)∧m=n+(textP text l').length∧joinc 10 r=textP text l' ++s∧(e=0→s=[])
 | [],acc,l,n,m,e,hr,_,_=>absurd rfl hr
 | [t],acc,l,n,m,e,_,h,hm=>by
   simp only [linesP,Prod.mk.injEq] at h
   obtain ⟨rfl,rfl,h⟩:=h
   refine ⟨[],t,by simp,hm,by simp,by simp [textP],by simp [textP,joinc],fun he=>?_⟩
   subst he
   split at h
   · assumption
   · cases h
 | t ::u ::r,acc,l,n,m,e,_,h,hm=>by
   rw [linesP_cons (by simp)] at h
   split at h
   · rename_i hb
     simp only [Prod.mk.injEq] at h
     obtain ⟨rfl,rfl,h⟩:=h
     exact ⟨[],joinc 10 (t ::u ::r),by simp,hm,by simp,by simp [textP],by simp [textP],fun he=>absurd (h.trans he) hb⟩
   · rename_i hb
     have hb:=Decidable.not_not.1 hb
     split at h
     · simp only [Prod.mk.injEq] at h
       obtain ⟨rfl,rfl,h⟩:=h
       exact ⟨[],joinc 10 (t ::u ::r),by simp,hm,by simp,by simp [textP],by simp [textP],fun he=>by rw [he] at h;cases h⟩
     · obtain ⟨l',s,h1,h2,h3,h4,h5,h6⟩:=linesP_read hp (by simp) h (by simp;omega)
       obtain ⟨hx,ht⟩:=hp t (p t).1 (by rw [← hb])
       refine ⟨(p t).1 ::l',s,by rw [h1];simp,h2,?_,?_,?_,h6⟩
       · intro y hy
         rcases List.mem_cons.1 hy with rfl | hy
         · exact hx
         · exact h3 y hy
       · rw [h4,textP_cons,ht,List.length_append,List.length_cons];omega
       · rw [joinc_cons (by simp),h5,textP_cons,ht];simp
theorem textP_part {text : α → List UInt8} : ∀ {l : List α} {k : Nat}, (∀ x ∈ l, 10 ∉ text x) → k ≤ (textP text l).length →
    ∃ j s,j≤l.length∧cutc 10 ((textP text l).take k)=(l.take j).map text ++[s]∧(textP text (l.take j)) ++s=(textP text l).take k∧10∉s
 | [],k,_,_=>⟨0,[],by simp,by simp [textP,cutc],by simp [textP],by simp⟩
 | x ::l,k,h,hk=>by
   rw [textP_cons] at hk ⊢
   have hx:=h x (by simp)
   by_cases hlt:k≤(text x).length
   · refine ⟨0,(text x).take k,by simp,?_,?_,fun hc=>hx (List.mem_of_mem_take hc)⟩
     · rw [List.take_append_of_le_length hlt,cutc_self (fun hc=>hx (List.mem_of_mem_take hc))];rfl
     · rw [List.take_append_of_le_length hlt];simp [textP]
   · obtain ⟨d,rfl⟩:∃ d,k=(text x).length+(d+1):=⟨k - (text x).length - 1,by omega⟩
     have hd:d≤(textP text l).length:=by simp only [List.length_append,List.length_cons] at hk;omega
     obtain ⟨j,s,h1,h2,h3,h4⟩:=textP_part (fun y hy=>h y (by simp [hy])) hd
     refine ⟨j+1,s,by simp;omega,?_,?_,h4⟩
     · rw [List.take_length_add_append,List.take_succ_cons,cutc_append hx,h2];rfl
     · rw [List.take_length_add_append,List.take_succ_cons,List.take_succ_cons,textP_cons,List.append_assoc,List.cons_append,h3]
end
/-! ### A ledger -/
theorem textE_no {x:Entry} (h:checkE x=0):(10:UInt8)∉textE x:=by
 unfold textE tailB
 intro hc
 rcases List.mem_append.1 hc with hc | hc
 · have:=headE_no x hc;simp at this
 · obtain ⟨b,hb,hc⟩:=List.mem_flatten.1 hc
   obtain ⟨n,hn,rfl⟩:=List.mem_map.1 hb
   rcases List.mem_cons.1 hc with hc | hc
   · simp at hc
   · exact itoa_no (numsE_bounds h n hn).1 (by decide) hc
theorem textR_no {x:Rec} (h:checkR x=0):(10:UInt8)∉textR x:=by
 unfold textR
 split
 · rename_i hk
   have:=cR_seal h hk
   intro hc
   rcases List.mem_append.1 hc with hc | hc
   · simp [sealW] at hc
   · exact itoa_no (by omega) (by decide) hc
 · rename_i hk
   have:=cR_write h hk
   intro hc
   rcases List.mem_append.1 hc with hc | hc
   · rcases List.mem_append.1 hc with hc | hc
     · exact itoa_no (by omega) (by decide) hc
     · simp [colonW] at hc
   · exact textE_no this.2.2.2.2 hc
theorem textRs_len {l:List Rec} (h:∀ x∈l,checkR x=0):(textP textR l).length≤101*l.length:=by
 induction l with
 | nil=>simp [textP]
 | cons x l ih =>
   have:=ih (fun y hy=>h y (by simp [hy]))
   have:=textR_len (h x (by simp))
   rw [textP_cons,List.length_append,List.length_cons,List.length_cons];omega
end
section
open Go.RowKit
abbrev str (l:List UInt8):Value:=.string ⟨l.toArray⟩
def encS (l:List UInt8):List Value:=[str l]
theorem str_of (s:ByteArray):s=⟨s.data.toList.toArray⟩:=by cases s;simp
theorem str_size (l:List UInt8):(⟨l.toArray⟩:ByteArray).size=l.length:=rfl
theorem Itoa_calls (n : Int) (h0 : -9223372036854775808 ≤ n) (h1 : n ≤ 9223372036854775807) (w : World) (E : Env w) :
    Calls Tryz.prog 154 #[.int .i64 n] w fun e w'=>e=.returned (str (Lib.itoa n))∧Onto w w' :=
 (Any.strconv_Itoa Tryz.laysM171 n h0 h1 w E.tab).mono fun e w' ⟨he,k,os,hw⟩=>⟨he,hw ▸ onto_grow w k os⟩
theorem num_case (t:List UInt8):(∃ v,Lib.atoiAll t=.ok v∧num t=(if Lib.itoa v=t then some v else none)∧-9223372036854775808≤v∧v≤9223372036854775807)∨((∀ v,Lib.atoiAll t≠.ok v)∧num t=none):=by
 unfold num
 cases h:Lib.atoiAll t with
 | ok v=>exact .inl ⟨v,rfl,rfl,Lib.atoiAll_bounds h⟩
 | _=>exact .inr ⟨by simp,rfl⟩
theorem Atoi_calls (s : List UInt8) (hs : s.length ≤ 281474976710656) (w : World) (E : Env w) :
    Calls Tryz.prog 153 #[str s] w fun e w'=>∃ v er,e=.returned (.tuple #[.int .i64 v,er])∧Onto w w' ∧
     ((er=.nilIface∧Lib.atoiAll s=.ok v∧-9223372036854775808≤v∧v≤9223372036854775807)∨((∃ t p,er=.iface t p)∧∀ v,Lib.atoiAll s≠.ok v)):=by
 obtain ⟨t1,p1,c1⟩:=E.syn
 obtain ⟨t2,p2,c2⟩:=E.rng
 cases h:Lib.atoiAll s with
 | ok v =>
   refine (Any.strconv_Atoi_ok Tryz.laysC172 ⟨s.toArray⟩ (by rw [str_size];omega) v (by simpa using h) w).mono ?_
   rintro e w' ⟨rfl,hw⟩
   refine ⟨v,_,rfl,?_,.inl ⟨rfl,rfl,Lib.atoiAll_bounds h⟩⟩
   rcases hw with rfl | ⟨t,rfl⟩
   · exact Onto.rfl' _
   · exact Lib.bytesWorld_below _ _ _
 | range =>
   refine (Any.strconv_Atoi_range Tryz.laysC172 ⟨s.toArray⟩ (by rw [str_size];omega) (by simpa using h) _ w c2 (.inr ⟨_,_,rfl⟩)).mono ?_
   rintro e w' ⟨N,rfl,_,_,hw⟩
   exact ⟨_,_,rfl,hw,.inr ⟨⟨_,_,rfl⟩,by simp⟩⟩
 | _ =>
   refine (Any.strconv_Atoi_syntax Tryz.laysC172 ⟨s.toArray⟩ (by rw [str_size];omega) (by simpa using h) _ w c1 (.inr ⟨_,_,rfl⟩)).mono ?_
   rintro e w' ⟨N,rfl,_,_,hw⟩
   exact ⟨_,_,rfl,hw,.inr ⟨⟨_,_,rfl⟩,by simp⟩⟩
theorem cutc_len (c:UInt8):∀ s:List UInt8,(cutc c s).length=s.count c+1
 | []=>rfl
 | b ::l=>by
   have ih:=cutc_len c l
   have hne:=cutc_ne c l
   rw [cutc]
   split
   · rename_i h;subst h;rw [List.length_cons,ih,List.count_cons_self]
   · rename_i h
     rw [List.length_cons,List.length_tail,ih,List.count_cons_of_ne (Ne.symm (Ne.symm h))]
     omega
theorem count_b (c:UInt8) (s:List UInt8):Lib.countB ⟨s.toArray⟩ ⟨#[c]⟩+1=(cutc c s).length:=by
 rw [cutc_len]
 show Lib.count _ _+1=_
 have:=Lib.count_one c s
 simpa using this
theorem pieces_b (c:UInt8) (s:List UInt8):(Lib.splitB ⟨#[c]⟩ 0 (Lib.countB ⟨s.toArray⟩ ⟨#[c]⟩) ⟨s.toArray⟩).map Value.string=(cutc c s).map str:=by
 have h:=Lib.splitB_data ⟨#[c]⟩ 0 (Lib.countB ⟨s.toArray⟩ ⟨#[c]⟩) ⟨s.toArray⟩
 have e:Lib.splitK (⟨#[c]⟩:ByteArray).data.toList 0 (Lib.countB ⟨s.toArray⟩ ⟨#[c]⟩) (⟨s.toArray⟩:ByteArray).data.toList=cutc c s:=by
  rw [← split_one]
  unfold Lib.split
  rfl
 rw [e] at h
 rw [← h,List.map_map]
 apply List.map_congr_left
 intro x _
 show Value.string x=str x.data.toList
 rw [str,← str_of]
theorem Split_calls (c : UInt8) (s : List UInt8) (hs : s.length ≤ 4000000000) (w : World) (E : Env w) :
    Calls Tryz.prog 119 #[str s,str [c]] w fun e w'=>∃ A,e=.returned (.slice A (cutc c s).length (cutc c s).length)∧S w' 1 A (cutc c s).length ((cutc c s).map encS)∧Onto w w':=by
 obtain ⟨m,hm⟩:=E.big
 refine (Any.strings_Split Tryz.lays146 (by kernel_rfl) ⟨s.toArray⟩ ⟨#[c]⟩ m w (by rw [str_size];omega) hm (Nat.le_refl 1)).mono ?_
 rintro e w' ⟨rfl,rfl⟩
 rw [count_b,pieces_b]
 refine ⟨_,rfl,?_,(Onto.rfl' w).new _⟩
 have:=Sl.block (k:=1) ((cutc c s).map encS) (hNew (w:=w) (o:=.cells ((cutc c s).map str).toArray 9) rfl) (by
  intro r hr
  obtain ⟨x,_,rfl⟩:=List.mem_map.1 hr
  rfl) (by
  generalize cutc c s=l
  induction l with
  | nil=>rfl
  | cons a l ih=>simp [encS] at ih ⊢;exact ih)
 rw [List.length_map] at this
 exact this
theorem index_one (c:UInt8):∀ s:List UInt8,(c∉s→Lib.index s [c]=-1)∧(∀ p r,s=p ++c ::r→c∉p→Lib.index s [c]=p.length)
 | []=>⟨fun _=>by rw [Lib.index];rfl,fun p r h=>by simp at h⟩
 | b ::l=>by
   have ih:=index_one c l
   refine ⟨fun h=>?_,fun p r h hp=>?_⟩
   · have h1:b≠c:=fun e=>h (by simp [e])
     have h2:c∉l:=fun e=>h (by simp [e])
     rw [Lib.index,ih.1 h2]
     simp [List.isPrefixOf,Ne.symm h1]
   · cases p with
     | nil =>
       simp at h
       obtain ⟨rfl,rfl⟩:=h
       rw [Lib.index]
       simp [List.isPrefixOf]
     | cons a p =>
       simp only [List.cons_append,List.cons.injEq] at h
       obtain ⟨rfl,h⟩:=h
       have h1:b≠c:=fun e=>hp (by simp [e])
       have h2:c∉p:=fun e=>hp (by simp [e])
       rw [Lib.index,ih.2 p r h h2]
       have:((p.length:Int) ==-1)=false:=by rw [beq_eq_false_iff_ne];omega
       simp [List.isPrefixOf,Ne.symm h1,this]
theorem cut_one (c:UInt8) (s:List UInt8):Lib.cut s [c]=if c∈s then ((cutc c s).headD [],joinc c (cutc c s).tail,true) else (s,[],false):=by
 by_cases h:c∈s
 · rw [if_pos h]
   obtain ⟨p,r,rfl,hp⟩:=List.eq_append_cons_of_mem h
   unfold Lib.cut
   rw [(index_one c _).2 p r rfl hp,cutc_append hp,if_pos (by omega)]
   simp [joinc_cutc]
 · rw [if_neg h]
   unfold Lib.cut
   rw [(index_one c s).1 h]
   rfl
theorem Cut_calls (s sep : List UInt8) (hs : s.length ≤ 4000000000) (w : World) (E : Env w) :
    Calls Tryz.prog 108 #[str s,str sep] w fun e w'=>e=.returned (.tuple #[str (Lib.cut s sep).1,str (Lib.cut s sep).2.1,.bool (Lib.cut s sep).2.2])∧Onto w w':=by
 obtain ⟨m,hm⟩:=E.big
 refine (Any.strings_Cut Tryz.lays145 ⟨s.toArray⟩ ⟨sep.toArray⟩ m w (by rw [str_size];omega) hm).mono ?_
 rintro e w' ⟨rfl,q,rfl⟩
 exact ⟨rfl,(Onto.rfl' w).draws q⟩
theorem CutPrefix_calls (s p : List UInt8) (w : World) :
    Calls Tryz.prog 131 #[str s,str p] w fun e w'=>e=.returned (.tuple #[str (if p.isPrefixOf s then s.drop p.length else s),.bool (p.isPrefixOf s)])∧Onto w w' :=
 (Any.strings_CutPrefix Tryz.lays103 ⟨s.toArray⟩ ⟨p.toArray⟩ w).mono fun e w' ⟨he,hw⟩=>⟨he,hw ▸ Onto.rfl' w⟩
end
section
open Go.RowKit
def encB (b:UInt8):List Value:=[.int .u8 b.toNat]
theorem encB_one (l:List UInt8):∀ r∈l.map encB,∀ u∈r,u.oneCell'=true:=by
 intro r hr u hu
 obtain ⟨x,_,rfl⟩:=List.mem_map.1 hr
 simp [encB] at hu
 rcases hu with rfl <;> rfl
theorem strOf (l:List UInt8):strOfNums (l.map fun b=>(b.toNat:Int))=⟨l.toArray⟩:=by
 unfold strOfNums
 simp only [List.map_map]
 rw [show ((fun n:Int=>UInt8.ofNat n.toNat) ∘ fun b:UInt8=>(b.toNat:Int))=id from by funext b;simp,List.map_id]
theorem conv_bytes {w:World} {B n c:Nat} {A:Option Addr} {l:List UInt8} (h:Sl w B 1 A n (l.map encB)):(convert 52 9 (.slice A n c)).run Tryz.prog w=.ok (str l) w:=by
 have hl:l.length=n:=by have:=h.1;simpa using this
 rcases Nat.eq_zero_or_pos n with h0 | h0
 · subst h0
   have hl0:l=[]:=List.eq_nil_of_length_eq_zero hl
   subst hl0
   cases A with
   | none=>exact run_convert_bytes_nil w 52 5 Tryz.underlying52 Tryz.underlying5 0 c 9 Tryz.underlying9
   | some a =>
     rw [run_convert_bytes_string w 52 9 5 _ 0 c Tryz.underlying52 Tryz.underlying5 Tryz.underlying9,run_bytesToString w a 0 c [] (by simpa using run_loadCells_list (P:=Tryz.prog) w a [] (by simp))]
     rfl
 · obtain ⟨b,off,e,_,hc⟩:=h.2.2 h0
   subst e
   have:=run_convert_bytes_arg (P:=Tryz.prog) w 52 5 Tryz.underlying52 Tryz.underlying5 b off n c (l.map fun b=>(b.toNat:Int)) (by simp [hl]) (fun i hi=>by
    have hi':i<l.length:=by omega
    have:=hc i 0 (encB l[i]) (.int .u8 l[i].toNat) (by simp [List.getElem?_eq_getElem hi']) rfl
    simpa [List.getD,List.getElem?_eq_getElem hi'] using this) 9 Tryz.underlying9
   rw [this,strOf]
end
section
open Go.RowKit
theorem ok_value {α:Type} {a b:α} {w w':World} (h:Result.ok a w=Result.ok b w'):a=b:=by injection h
theorem strC:∀ s:List UInt8,(s.map encB).flatten=Lib.strCells ⟨s.toArray⟩
 | []=>rfl
 | b ::s=>by
   rw [List.map_cons,List.flatten_cons,strC s]
   rfl
section
variable {P:Program} (w:World)
theorem run_app_str (base : Nat) (t u ty e : TypeId) (i : TypeInfo) (ht : P.underlying t = some (.slice e)) (hu : P.underlying u = some .string) (hi : P.info? e = some i) (hz : i.zero = some (.int .u8 0))
    (hsize:i.size=1) (hby:i.bytes=1) (v:Value) (n:Nat) (rows:List (List Value)) (hown:Own w base e 1 v n rows) (s:List UInt8)
    (h63:n+s.length≤maxLen) (hbytes:n+s.length≤140737488355328) (hbase:base≤w.heap.size) :
    ∃ v' w',(Builtin.append_ #[t,u] ty #[v,str s]).run P w=.ok v' w'∧Own w' base e 1 v' (n+s.length) (rows ++s.map encB)∧w.grownBy w' v.ownBlock∧(v'.ownBlock=v.ownBlock∨v'.ownBlock=some w.heap.size):=by
 have hsz:(⟨s.toArray⟩:ByteArray).size=s.length:=rfl
 obtain ⟨v',w',hr,h2,h3,h4⟩:=Lib.run_append_own_string (P:=P) w base t u ty e i ht hu hi hz hsize hby v n rows.flatten hown.1 ⟨s.toArray⟩ (by rw [hsz];exact h63) (by rw [hsz];exact hbytes) hbase
 rw [hsz] at h2 h4
 refine ⟨v',w',hr,⟨?_,by simp [hown.2.1],?_⟩,h3,?_⟩
 · have e:(rows ++s.map encB).flatten=rows.flatten ++Lib.strCells ⟨s.toArray⟩:=by
    rw [List.flatten_append]
    rw [strC]
   rw [e];exact h2
 · intro r hr
   rcases List.mem_append.1 hr with hr | hr
   · exact hown.2.2 r hr
   · obtain ⟨b,_,rfl⟩:=List.mem_map.1 hr
     rfl
 · rcases hown.1.2 with ⟨rfl,rfl⟩ | ⟨g,cap,cur,rfl,hbg,hg,hnc,hcm,hcs,htake⟩
   · by_cases hm:s.length=0
     · left;rw [h4.2 ⟨rfl,hm⟩]
     · right
       have hr2:=run_append_nil_string (P:=P) w t u ty e i (.int .u8 0) ht hu hi hz ⟨s.toArray⟩ (by rw [hsz];omega) (by rw [hsz];omega) (by rw [hby,hsz];omega)
       rw [hr] at hr2
       rw [ok_value hr2];rfl
   · by_cases hroom:n+s.length≤cap
     · left
       have hr2:=Lib.run_append_room_string (P:=P) w t u ty e i ht hu hi hsize g n cap cur hg ⟨s.toArray⟩ (by rw [hsz];exact hroom) (by rw [hsz,hcs];omega)
       rw [hr] at hr2
       rw [ok_value hr2];rfl
     · right
       have holds:∀ j u,rows.flatten[j]?=some u→w.cell? ((⟨g,0,none⟩:Addr).add j)=some u:=hown.1.cells (g:=g) rfl
       have hr2:=Lib.run_append_grow_string (P:=P) w t u ty e i (.int .u8 0) ht hu hi hz ⟨g,0,none⟩ n cap rows.flatten (by rw [hsize];simpa using hown.1.1) holds ⟨s.toArray⟩ (by rw [hsz];omega) (by rw [hsz];unfold maxLen at h63;omega) (by rw [hby,hsz];exact growslice_fits (by omega) (by omega))
       rw [hr] at hr2
       rw [ok_value hr2];rfl
theorem step_app_str {ops : Array Oper} {o : Oper} {a : Act} {K : Act → World → Prop} {Q : Exit → Act → World → Prop} {F : Prop} (hgd : o.guard = none) (sl x : Operand) (t u : TypeId)
    (ho:o.op=.call { callee:=.builtin .append,args:=#[sl,x],argTypes:=#[t,u] })
    (base:Nat) (e:TypeId) (i:TypeInfo) (ht:P.underlying t=some (.slice e)) (hu:P.underlying u=some .string) (hi:P.info? e=some i) (hz:i.zero=some (.int .u8 0))
    (hsize:i.size=1) (hby:i.bytes=1) (v:Value) (n:Nat) (rows:List (List Value)) (hs:a.eval sl=v) (hown:Own w base e 1 v n rows) (s:List UInt8) (hx:a.eval x=str s)
    (h63:n+s.length≤maxLen) (hbytes:n+s.length≤140737488355328) (hbase:base≤w.heap.size)
    (h:∀ v' w',Own w' base e 1 v' (n+s.length) (rows ++s.map encB)→w.grownBy w' v.ownBlock→(v'.ownBlock=v.ownBlock∨v'.ownBlock=some w.heap.size)→K (a.put o.dst v') w') :
    if Region.wanted o (yielded ops a.tmps)=true then Oper.wp P o a w K Q else F:=by
 rw [if_pos (by simp [Region.wanted,hgd])]
 obtain ⟨v',w',hrun,h2,h3,h4⟩:=run_app_str (P:=P) w base t u o.type e i ht hu hi hz hsize hby v n rows hown s h63 hbytes hbase
 unfold Oper.wp execOp
 simp only [ho,resolve,invoke,builtin,Sem.run_bind,Sem.run_pure,Result.andThen_ok,List.map_toArray,List.map_cons,List.map_nil,hs,hx,hrun]
 exact h v' w' h2 h3 h4
theorem step_app_sl {ops : Array Oper} {o : Oper} {a : Act} {K : Act → World → Prop} {Q : Exit → Act → World → Prop} {F : Prop} (hgd : o.guard = none) (s x : Operand) (t : TypeId)
    (ho:o.op=.call { callee:=.builtin .append,args:=#[s,x],argTypes:=#[t,t] })
    (base:Nat) (e:TypeId) (i:TypeInfo) (z:Value) (size bytes:Nat) (ht:P.underlying t=some (.slice e)) (hi:P.info? e=some i) (hz:i.zero=some z)
    (hsize:i.size=size) (hby:i.bytes=bytes) (hzs:z.cells.size=size) (hsz:0<size)
    (v:Value) (n:Nat) (rows:List (List Value)) (hs:a.eval s=v) (hown:Own w base e size v n rows)
    (B:Nat) (A:Option Addr) (m c:Nat) (news:List (List Value)) (hx:a.eval x=.slice A m c) (hr:Sl w B size A m news) (h1:∀ r∈news,∀ u∈r,u.oneCell'=true)
    (h63:n+m≤maxLen) (hbytes:(n+m)*bytes≤140737488355328) (hbase:base≤w.heap.size)
    (h:∀ v' w',Own w' base e size v' (n+m) (rows ++news)→w.grownBy w' v.ownBlock→(v'.ownBlock=v.ownBlock∨v'.ownBlock=some w.heap.size)→K (a.put o.dst v') w') :
    if Region.wanted o (yielded ops a.tmps)=true then Oper.wp P o a w K Q else F:=by
 rw [if_pos (by simp [Region.wanted,hgd])]
 exact wp_append_sl w s x t ho base e i z size bytes ht hi hz hsize hby hzs hsz v n rows hs hown B A m c news hx hr h1 h63 hbytes hbase h
end
theorem Own.kept1 {w w':World} {base E k n:Nat} {v:Value} {rows:List (List Value)} {row:Option Nat} (h:Own w base E k v n rows) (hg:w.grownBy w' row) (hne:∀ b,v.ownBlock=some b→row≠some b):Own w' base E k v n rows :=
 h.kept hg (by
  cases e:v.ownBlock with
  | none=>exact .inl rfl
  | some b=>exact .inr fun e'=>hne b e e'.symm)
theorem Own.lt {w:World} {base E k n:Nat} {v:Value} {rows:List (List Value)} (h:Own w base E k v n rows):∀ b,v.ownBlock=some b→base≤b∧b<w.heap.size:=h.1.lt
end
end Go.Proofs.YtidlffepdcldkaaGreatDoor
