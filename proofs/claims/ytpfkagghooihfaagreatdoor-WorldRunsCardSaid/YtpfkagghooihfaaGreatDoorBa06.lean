/- Part 6. -/
import Derived.Test.YtpfkagghooihfaaGreatDoorBa01
import Derived.Lib.AppendZerosOnto
import Derived.Lib.SliceRun
namespace Go.Proofs.YtpfkagghooihfaaGreatDoor
set_option linter.unusedSimpArgs false
set_option linter.unusedVariables false
set_option maxHeartbeats 4000000
set_option maxRecDepth 100000
open Go.Proofs.Tryz
open Go.RowKit
section
theorem KX:(prog.info? 90).map (fun i=>(i.zero,i.size,i.bytes))=some (some (.agg #[(),(),(),(),(),(),(),()]),8,64):=by kernel_rfl
theorem PH (n:Nat):(Builtin.zeroCells ((.agg #[(),(),(),(),(),(),(),()]:Value)).cells n).size=n*8:=by simp[Builtin.zeroCells,Value.cells]
theorem CT (w : World)(n : Nat)(hn : n * 64 ≤ 140737488355328) :
    Calls prog 112 #[Nat,n] w fun e w'=>∃A' c',e=.returned (.slice A' 0 c')∧cH w' w.heap.size 90 8 (.slice A' 0 c') 0 []∧aA w w':=by
 obtain⟨i0,hi0,hz0,hz1,hz2⟩:=info_parts KX;have h1:¬ ((n:Int)<0):=by omega
 have h3:wrap64 ((n:Int)-0)=(n:Int):=by unfold wrap64;omega
 rcases Nat.eq_zero_or_pos n with hn0|hn0
 · subst hn0;clear hi0 hz0 hz1 hz2 hn;go_enter func112,ntmps112;go_wp2;go_ret;exact⟨none,0,rfl,cH.nil _ _ _ _,Below.refl _ _⟩
 have hd:(0:Int)<(n:Int):=by omega
 have hgc:n≤grownCap w n 0 90:=grownCap_ge w _ _ _;have hgm:grownCap w n 0 90≤maxLen:=grownCap_le_maxLen w n 0 90 (by unfold maxLen;omega)
 have hrz : ∀ty, (Builtin.append_ #[57, 3] ty #[Nat, .int .i64 (n : Int)]).run prog w =
     .ok (.slice (some ⟨w.heap.size,0,none⟩) n (grownCap w n 0 90)) (w.drew.alloc (.cells (#[] ++Builtin.zeroCells ((.agg #[(),(),(),(),(),(),(),()]:Value)).cells n ++Builtin.zeroCells ((.agg #[(),(),(),(),(),(),(),()]:Value)).cells (grownCap w n 0 90-n)) 90)):=fun ty=>by
  have h:=Lib.run_append_grow_zeros w 57 3 ty 90 i0 _ .i64 .i64 underlying57 underlying3 hi0 hz0 none 0 0 [] (run_firstCells_none w.drew i0.size 0 0 0) n hn0 (by omega) (by omega) (by omega)
   (by rw[hz2];omega) (by rw[Nat.zero_add,hz2];exact growslice_fits (by omega) (by omega))
  rw[Nat.zero_add]at h;exact h
 have hown:(w.drew.alloc (.cells (#[] ++Builtin.zeroCells ((.agg #[(),(),(),(),(),(),(),()]:Value)).cells n ++Builtin.zeroCells ((.agg #[(),(),(),(),(),(),(),()]:Value)).cells (grownCap w n 0 90-n)) 90)).ownsRow w.heap.size 90 8 (.slice (some ⟨w.drew.heap.size,0,none⟩) 0 (grownCap w n 0 90)) 0 []:=World.ownsRow_made w.drew _ _ (Nat.le_refl _) hgm (by
  simp only[Array.size_append,PH];simp
  omega)
 have HOWN:=aH hown;have hon:aA w (w.drew.alloc (.cells (#[] ++Builtin.zeroCells ((.agg #[(),(),(),(),(),(),(),()]:Value)).cells n ++Builtin.zeroCells ((.agg #[(),(),(),(),(),(),(),()]:Value)).cells (grownCap w n 0 90-n)) 90)):=(aA.draw (aA.Zz w)).new _;have HON:=aH hon;unfold maxLen at hgm;clear hi0 hz0 hz1 hz2 hn hown hon;generalize(w.drew.alloc (.cells (#[] ++Builtin.zeroCells ((.agg #[(),(),(),(),(),(),(),()]:Value)).cells n ++Builtin.zeroCells ((.agg #[(),(),(),(),(),(),(),()]:Value)).cells (grownCap w n 0 90-n)) 90))=w1 at *;generalize grownCap w n 0 90=G at *;go_enter func112,ntmps112;go_wp2_with (at_builtin;refine Lib.wpList_append_run _ rfl _ _ _ _ rfl _ _ rfl rfl _ _ (hrz _) ?_)
 all_goals (go_ret;exact⟨some ⟨w.heap.size,0,none⟩,G,rfl,⟨HOWN.out,rfl,by simp⟩,HON.out⟩)
theorem yI (w : World)(A A' : Option Addr)(n c m d Z y : Nat)(rows rows' : List (List Value))(hz0 : w.cell? ⟨Z, 0, none⟩ = some (.slice A n c))(hz1 : w.cell? ⟨Z, 1, none⟩ = some (.slice A' m d))
    (h:Sl w w.heap.size 8 A n rows)(h':Sl w w.heap.size 8 A' m rows')(h1:∀r∈rows,∀u∈r,u.oneCell'=true)(h1':∀r∈rows',∀u∈r,u.oneCell'=true)(hn:(n+m)*64≤140737488355328) :
    Calls prog 71 #[.slice (some ⟨Z,0,none⟩) 2 y] w fun e w'=>∃A1 c1,e=.returned (.slice A1 (n+m) c1)∧cH w' w.heap.size 90 8 (.slice A1 (n+m) c1) (n+m) (rows ++rows')∧aA w w':=by
 have HH:=aH h;have HH':=aH h';have H1:=aH h1;have H1':=aH h1';have HN:=aH hn;have hZ:Z<w.heap.size:=World.block_lt_of_cell? w _ hz0;have hn0:n≤140737488355328:=by omega
 have hm0:m≤140737488355328:=by omega
 have hnm:n+m≤maxLen:=by unfold maxLen;omega
 have HNM:=aH hnm;clear h h' h1 h1' hn hnm;obtain⟨i0,hi0,hq0,hq1,hq2⟩:=info_parts KX;have HI:=aH hi0;have HQ0:=aH hq0;have HQ1:=aH hq1;have HQ2:=aH hq2;clear hi0 hq0 hq1 hq2;go_enter func71,ntmps71;go_wp2_with fail
 go_loopg [3,11] 2 (fun g s3 s11 wr=>w=wr∧((s11=.int .i64 0∧s3=.int .i64 0∧2≤g)∨(s11=.int .i64 1∧s3=.int .i64 n∧1≤g)∨(s11=.int .i64 2∧s3=.int .i64 ((n+m:Nat):Int))))
 case atStart=>exact⟨rfl,.inl ⟨rfl,rfl,by omega⟩⟩
 case round =>
  obtain⟨rfl,⟨rfl,rfl,hg⟩| ⟨rfl,rfl,hg⟩| ⟨rfl,rfl⟩⟩:=hrel
  · go_wp2_with fail;go_roundg 1
    case measure=>omega
    case rel=>exact⟨rfl,.inr (.inl ⟨by go_num,by go_num,by omega⟩)⟩
  · have hlt:¬ ((n:Int)+(m:Int)<0):=by omega
    go_wp2_with fail;go_roundg 0
    case measure=>omega
    case rel=>exact⟨rfl,.inr (.inr ⟨by go_num,by go_num⟩)⟩
  go_wp2_with fail;refine Calls.mono (CT _ (n+m) HN.out) ?_;rintro e w1⟨A1,c1,rfl,ow,on⟩;have y0:w1.cell? ⟨Z,0,none⟩=some (.slice A n c):=by rw[on.cell hZ];exact hz0
  have y1:w1.cell? ⟨Z,1,none⟩=some (.slice A' m d):=by rw[on.cell hZ];exact hz1
  clear hz0 hz1;have HOW:=aH ow;clear ow;go_wp2_with fail
  go_loopg [6,27] 2 (fun g s6 s27 wr=>aA w wr∧((s27=.int .i64 0∧2≤g∧∃A2 c2,s6=.slice A2 0 c2∧Hid (cH wr w.heap.size 90 8 (.slice A2 0 c2) 0 []))∨(s27=.int .i64 1∧1≤g∧∃A2 c2,s6=.slice A2 n c2∧Hid (cH wr w.heap.size 90 8 (.slice A2 n c2) n rows))∨(s27=.int .i64 2∧∃A2 c2,s6=.slice A2 (n+m) c2∧Hid (cH wr w.heap.size 90 8 (.slice A2 (n+m) c2) (n+m) (rows ++rows')))))
  case atStart=>exact⟨on,.inl ⟨rfl,by omega,A1,c1,rfl,HOW⟩⟩
  case round =>
   obtain⟨on2,⟨rfl,hg,A2,c2,rfl,HO⟩| ⟨rfl,hg,A2,c2,rfl,HO⟩| ⟨rfl,A2,c2,rfl,HO⟩⟩:=hrel
   · have u0:wr.cell? ⟨Z,0,none⟩=some (.slice A n c):=by rw[on2.cell hZ,←on.cell hZ];exact y0
     go_wp2_with (at_builtin;refine aQ _ rfl _ _ 57 rfl w.heap.size 90 i0 _ 8 64 underlying57 HI.out HQ0.out HQ1.out HQ2.out rfl (by decide) _ 0 [] rfl HO.out w.heap.size A n c rows rfl (Sl.under HH.out (Nat.le_refl _) on2) H1.out (by have:=HNM.out;omega) (by have:=HN.out;omega) on2.size ?_)
     intro v8 w8 own8 grow8 hv8;obtain⟨A8,c8,rfl,_,_⟩:=own8.slice;have hB8:aA w w8:=aT on2 on2.size grow8 (fun g hg=>by have:=(HO.out.1.lt g hg).1;omega);have HO8:=aH own8;clear grow8 hv8 own8 HO u0 on2 y0 y1;go_wp2_with fail;go_roundg 1
     case measure=>omega
     case rel=>exact⟨hB8,.inr (.inl ⟨by go_num,by omega,A8,c8,rfl,HO8⟩)⟩
   · have u0:wr.cell? ⟨Z,1,none⟩=some (.slice A' m d):=by rw[on2.cell hZ,←on.cell hZ];exact y1
     go_wp2_with (at_builtin;refine aQ _ rfl _ _ 57 rfl w.heap.size 90 i0 _ 8 64 underlying57 HI.out HQ0.out HQ1.out HQ2.out rfl (by decide) _ n rows rfl HO.out w.heap.size A' m d rows' rfl (Sl.under HH'.out (Nat.le_refl _) on2) H1'.out (by have:=HNM.out;omega) (by have:=HN.out;omega) on2.size ?_)
     intro v8 w8 own8 grow8 hv8;obtain⟨A8,c8,rfl,_,_⟩:=own8.slice;have hB8:aA w w8:=aT on2 on2.size grow8 (fun g hg=>by have:=(HO.out.1.lt g hg).1;omega);have HO8:=aH own8;clear grow8 hv8 own8 HO u0 on2 y0 y1;go_wp2_with fail;go_roundg 0
     case measure=>omega
     case rel=>exact⟨hB8,.inr (.inr ⟨by go_num,A8,c8,rfl,HO8⟩)⟩
   have HB2:=aH on2;clear on2 y0 y1;go_wp2_with fail;go_ret;exact⟨A2,c2,rfl,HO.out,HB2.out⟩
end
section
structure Pt where
 A:Option Addr
 n:Nat
 c:Nat
 rows:List (List Value)
def iX (l:List Pt):Nat:=(l.map Pt.n).sum
def vZ (l:List Pt):List (List Value):=(l.map Pt.rows).flatten
theorem tZ (a b:List Pt):iX (a ++b)=iX a+iX b:=by simp[iX]
theorem zF {l:List Pt}{i:Nat}{p:Pt}(h:l[i]?=some p):iX (l.take (i+1))=iX (l.take i)+p.n:=by
 obtain⟨hi,rfl⟩:=List.getElem?_eq_some_iff.1 h;rw[List.take_succ_eq_append_getElem hi,tZ];simp[iX]
theorem FQ {l:List Pt}{i:Nat}{p:Pt}(h:l[i]?=some p):vZ (l.take (i+1))=vZ (l.take i) ++p.rows:=by
 obtain⟨hi,rfl⟩:=List.getElem?_eq_some_iff.1 h;rw[List.take_succ_eq_append_getElem hi];unfold vZ;rw[List.map_append,List.flatten_append];simp
theorem NL (l:List Pt)(i:Nat):iX (l.take i)≤iX l:=by
 have h:=tZ (l.take i) (l.drop i);rw[List.take_append_drop]at h;omega
theorem LT:(prog.info? 29).map (fun i=>(i.zero,i.size,i.bytes))=some (some (.agg #[(),(),(),(),(),(),(),(),(),()]),10,80):=by kernel_rfl
theorem OS (n:Nat):(Builtin.zeroCells ((.agg #[(),(),(),(),(),(),(),(),(),()]:Value)).cells n).size=n*10:=by simp[Builtin.zeroCells,Value.cells]
theorem FN (w : World)(n : Nat)(hn : n * 80 ≤ 140737488355328) :
    Calls prog 76 #[Nat,n] w fun e w'=>∃A' c',e=.returned (.slice A' 0 c')∧cH w' w.heap.size 29 10 (.slice A' 0 c') 0 []∧aA w w':=by
 obtain⟨i0,hi0,hz0,hz1,hz2⟩:=info_parts LT;have h1:¬ ((n:Int)<0):=by omega
 have h3:wrap64 ((n:Int)-0)=(n:Int):=by unfold wrap64;omega
 rcases Nat.eq_zero_or_pos n with hn0|hn0
 · subst hn0;clear hi0 hz0 hz1 hz2 hn;go_enter func76,ntmps76;go_wp2;go_ret;exact⟨none,0,rfl,cH.nil _ _ _ _,Below.refl _ _⟩
 have hd:(0:Int)<(n:Int):=by omega
 have hgc:n≤grownCap w n 0 29:=grownCap_ge w _ _ _;have hgm:grownCap w n 0 29≤maxLen:=grownCap_le_maxLen w n 0 29 (by unfold maxLen;omega)
 have hrz : ∀ty, (Builtin.append_ #[38, 3] ty #[Nat, .int .i64 (n : Int)]).run prog w =
     .ok (.slice (some ⟨w.heap.size,0,none⟩) n (grownCap w n 0 29)) (w.drew.alloc (.cells (#[] ++Builtin.zeroCells ((.agg #[(),(),(),(),(),(),(),(),(),()]:Value)).cells n ++Builtin.zeroCells ((.agg #[(),(),(),(),(),(),(),(),(),()]:Value)).cells (grownCap w n 0 29-n)) 29)):=fun ty=>by
  have h:=Lib.run_append_grow_zeros w 38 3 ty 29 i0 _ .i64 .i64 underlying38 underlying3 hi0 hz0 none 0 0 [] (run_firstCells_none w.drew i0.size 0 0 0) n hn0 (by omega) (by omega) (by omega)
   (by rw[hz2];omega) (by rw[Nat.zero_add,hz2];exact growslice_fits (by omega) (by omega))
  rw[Nat.zero_add]at h;exact h
 have hown:(w.drew.alloc (.cells (#[] ++Builtin.zeroCells ((.agg #[(),(),(),(),(),(),(),(),(),()]:Value)).cells n ++Builtin.zeroCells ((.agg #[(),(),(),(),(),(),(),(),(),()]:Value)).cells (grownCap w n 0 29-n)) 29)).ownsRow w.heap.size 29 10 (.slice (some ⟨w.drew.heap.size,0,none⟩) 0 (grownCap w n 0 29)) 0 []:=World.ownsRow_made w.drew _ _ (Nat.le_refl _) hgm (by
  simp only[Array.size_append,OS];simp
  omega)
 have HOWN:=aH hown;have hon:aA w (w.drew.alloc (.cells (#[] ++Builtin.zeroCells ((.agg #[(),(),(),(),(),(),(),(),(),()]:Value)).cells n ++Builtin.zeroCells ((.agg #[(),(),(),(),(),(),(),(),(),()]:Value)).cells (grownCap w n 0 29-n)) 29)):=(aA.draw (aA.Zz w)).new _;have HON:=aH hon;unfold maxLen at hgm;clear hi0 hz0 hz1 hz2 hn hown hon;generalize(w.drew.alloc (.cells (#[] ++Builtin.zeroCells ((.agg #[(),(),(),(),(),(),(),(),(),()]:Value)).cells n ++Builtin.zeroCells ((.agg #[(),(),(),(),(),(),(),(),(),()]:Value)).cells (grownCap w n 0 29-n)) 29))=w1 at *;generalize grownCap w n 0 29=G at *;go_enter func76,ntmps76;go_wp2_with (at_builtin;refine Lib.wpList_append_run _ rfl _ _ _ _ rfl _ _ rfl rfl _ _ (hrz _) ?_)
 all_goals (go_ret;exact⟨some ⟨w.heap.size,0,none⟩,G,rfl,⟨HOWN.out,rfl,by simp⟩,HON.out⟩)
theorem vX (w : World)(ps : List Pt)(Z y : Nat)(hz : ∀i p, ps[i]? = some p → w.cell? ⟨Z, i, none⟩ = some (.slice p.A p.n p.c))
    (h:∀p∈ps,Sl w w.heap.size 10 p.A p.n p.rows)(h1:∀p∈ps,∀r∈p.rows,∀u∈r,u.oneCell'=true)(hZ:Z<w.heap.size)(hp:ps.length≤1000)(hn:iX ps*80≤140737488355328) :
    Calls prog 26 #[.slice (some ⟨Z,0,none⟩) ps.length y] w fun e w'=>∃A1 c1,e=.returned (.slice A1 (iX ps) c1)∧cH w' w.heap.size 29 10 (.slice A1 (iX ps) c1) (iX ps) (vZ ps)∧aA w w':=by
 have HH:=aH h;have H1:=aH h1;have HN:=aH hn;have HZ:=aH hz;obtain⟨N,hN⟩:∃N,N=ps.length:=⟨_,rfl⟩
 obtain⟨M,hM⟩:∃M,M=iX ps:=⟨_,rfl⟩
 have HLE:=aH (fun i=>NL ps i);rw[←hN]at hp⊢;rw[←hM]at hn⊢;have HNN:=aH hN;have HMM:=aH hM;have hM0:M≤140737488355328:=by omega
 clear h h1 hz hN hM;have hnm:M≤maxLen:=by unfold maxLen;omega
 have HNM:=aH hnm;clear hnm;obtain⟨i0,hi0,hq0,hq1,hq2⟩:=info_parts LT;have HI:=aH hi0;have HQ0:=aH hq0;have HQ1:=aH hq1;have HQ2:=aH hq2;clear hi0 hq0 hq1 hq2;go_enter func26,ntmps26;go_wp2_with fail
 go_loopg [3,11] N (fun g s3 s11 wr=>∃i:Nat,i≤N∧N-i≤g∧w=wr∧s11=.int .i64 i∧s3=.int .i64 ((iX (ps.take i):Nat):Int))
 case atStart=>exact⟨0,Nat.zero_le _,Nat.le_refl _,rfl,rfl,by simp[iX]⟩
 case round =>
  obtain⟨i,hi,hg,rfl,rfl,rfl⟩:=hrel;by_cases hlt:i<N
  · obtain⟨p,hpi⟩:∃p,ps[i]?=some p:=⟨_,List.getElem?_eq_getElem (by rw[←HNN.out];exact hlt)⟩
    have hc:=HZ.out i p hpi;have hs:=zF hpi;have hle:iX (ps.take (i+1))≤M:=by rw[HMM.out];exact HLE.out _
    obtain⟨a1,ha1⟩:∃a1,a1=iX (ps.take (i+1)):=⟨_,rfl⟩
    rw[←ha1]at hs hle;generalize iX (ps.take i)=a0 at *;obtain⟨q,hq⟩:∃q,q=p.n:=⟨_,rfl⟩
    rw[←hq]at hs hc;have hlt0:¬ ((a1:Int)<0):=by omega
    have hsum:wrap64 ((a0:Int)+(q:Int))=(a1:Int):=by unfold wrap64;omega
    have hsum':IntKind.i64.wrap ((a0:Int)+(q:Int))=(a1:Int):=by clear hsum;rw[IntKind.wrap_i64];omega
    have HA1:=aH ha1;clear ha1 hq;clear hpi hs;go_wp2_with fail;go_roundg (N-(i+1))
    case measure=>omega
    case rel=>exact⟨i+1,by omega,Nat.le_refl _,rfl,by go_num,by rw[←HA1.out]⟩
  obtain rfl:i=N:=by omega
  have hall:iX (ps.take i)=M:=by have h1:=HNN.out;have h2:=HMM.out;rw[h2,h1,List.take_length]
  rw[hall];clear hall;go_wp2_with fail;refine Calls.mono (FN _ M hn) ?_;rintro e w1⟨A1,c1,rfl,ow,on⟩;have HOW:=aH ow;clear ow;go_wp2_with fail
  go_loopg [6,27] i (fun g s6 s27 wr=>aA w wr∧∃ (j:Nat) (A2:Option Addr) (c2:Nat),j≤i∧i-j≤g∧s27=.int .i64 j∧s6=.slice A2 (iX (ps.take j)) c2∧Hid (cH wr w.heap.size 29 10 (.slice A2 (iX (ps.take j)) c2) (iX (ps.take j)) (vZ (ps.take j))))
  case atStart=>exact⟨on,0,A1,c1,Nat.zero_le _,Nat.le_refl _,rfl,by simp[iX],by simpa[iX,vZ]using HOW⟩
  case round =>
   obtain⟨on2,j,A2,c2,hj,hg2,rfl,rfl,HO⟩:=hrel;by_cases hlt2:j<i
   · obtain⟨p,hpi⟩:∃p,ps[j]?=some p:=⟨_,List.getElem?_eq_getElem (by rw[←HNN.out];exact hlt2)⟩
     have hm:=List.mem_of_getElem? hpi;have u0:wr.cell? ⟨Z,j,none⟩=some (.slice p.A p.n p.c):=by rw[on2.cell hZ];exact HZ.out j p hpi
     have hs:=zF hpi;have hrw:=FQ hpi;have hle:iX (ps.take (j+1))≤M:=by rw[HMM.out];exact HLE.out _
     have hb:iX (ps.take j)+p.n≤M:=by omega
     have HS:=aH hs;have HRW:=aH hrw;have HB:=aH hb;clear hpi hs hrw hle hb;go_wp2_with (at_builtin;refine aQ _ rfl _ _ 38 rfl w.heap.size 29 i0 _ 10 80 underlying38 HI.out HQ0.out HQ1.out HQ2.out rfl (by decide) _ (iX (ps.take j)) (vZ (ps.take j)) rfl HO.out w.heap.size p.A p.n p.c p.rows rfl (Sl.under (HH.out p hm) (Nat.le_refl _) on2) (H1.out p hm) (by have h1:=HNM.out;have h2:=HB.out;omega) (by have h2:=HB.out;omega) on2.size ?_)
     intro v8 w8 own8 grow8 hv8;obtain⟨A8,c8,rfl,_,_⟩:=own8.slice;have hB8:aA w w8:=aT on2 on2.size grow8 (fun g hg=>by have:=(HO.out.1.lt g hg).1;omega);rw[←HS.out,←HRW.out]at own8;have HO8:=aH own8;rw[←HS.out];clear grow8 hv8 own8 HO u0 on2 hm;go_wp2_with fail;go_roundg (i-(j+1))
     case measure=>omega
     case rel=>exact⟨hB8,j+1,A8,c8,by omega,Nat.le_refl _,by go_num,rfl,HO8⟩
   obtain rfl:j=i:=by omega
   have hall:ps.take j=ps:=by have h1:=HNN.out;rw[h1,List.take_length]
   have HB2:=aH on2;rw[hall,←HMM.out]at HO;rw[hall,←HMM.out];clear on2 hall;go_wp2_with fail;go_ret;exact⟨A2,c2,rfl,HO.out,HB2.out⟩
theorem MG:(prog.info? 30).map (fun i=>(i.zero,i.size,i.bytes))=some (some (.int .i64 0),1,8):=by kernel_rfl
end
end Go.Proofs.YtpfkagghooihfaaGreatDoor
