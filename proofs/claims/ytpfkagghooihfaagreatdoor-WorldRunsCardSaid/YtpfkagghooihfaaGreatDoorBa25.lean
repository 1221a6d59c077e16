/- Part 25. -/
import Derived.Test.YtpfkagghooihfaaGreatDoorBa22
import Derived.Test.YtpfkagghooihfaaGreatDoorBa19
namespace Go.Proofs.YtpfkagghooihfaaGreatDoor
set_option linter.unusedSimpArgs false
set_option linter.unusedVariables false
set_option maxHeartbeats 16000000
set_option maxRecDepth 100000
open Go.Proofs.Tryz
open Go.RowKit
section
theorem EU (c:Int)(hc:c=60∨c=3)(w:World):Calls prog 120 #[.int .u64 1,.int .u64 c] w fun e w'=>e=.returned (.tuple #[.int .u64 0,.int .u64 c])∧aA w w':=by
 rcases hc with rfl|rfl
 all_goals
  go_enter func120,ntmps120;go_wp2_with fail;refine bodyPost_ret ?_ rfl ⟨rfl,aA.Zz _⟩;simp[results,results120,go_sem]
  kernel_rfl
theorem tU (c:Int)(hc:c=60∨c=3)(w:World):Calls prog 86 #[.int .u64 1,.int .u64 c] w fun e w'=>e=.returned (.tuple #[.int .u64 0,.int .u64 c])∧aA w w':=by
 go_enter func86,ntmps86;go_wp2_with fail;refine Calls.mono (EU c hc _) ?_;rintro e w'⟨rfl,hb⟩;go_wp2_with fail;exact bodyPost_ret (v:=.tuple #[.int .u64 0,.int .u64 c]) (by simp[results,results86,go_sem]) rfl ⟨rfl,hb⟩
theorem NM {r:List Value}{k:Nat}(h:r.length=k)(m:Nat):(List.replicate m r).flatten.length=m*k:=by
 induction m with
 |zero=>simp
 |succ m ih=>rw[List.replicate_succ,List.flatten_cons,List.length_append,ih,h,Nat.succ_mul];omega
theorem IY (r:List Value)(m k:Nat):(List.replicate (m+k) r).flatten=(List.replicate m r).flatten ++(List.replicate k r).flatten:=by
 rw[←List.replicate_append_replicate,List.flatten_append]
theorem NW {r:List Value}(h:∀v∈r,v.oneCell'=true)(m:Nat):∀v∈(List.replicate m r).flatten,v.oneCell'=true:=by
 intro v hv;obtain⟨r',hr,hv⟩:=List.mem_flatten.1 hv;rw[(List.mem_replicate.1 hr).2]at hv;exact h v hv
section
variable {T ST k N:Nat}{i0:TypeInfo}{row:List Value}{cur:Array Value}
theorem vO (hu : prog.underlying ST = some (.slice T))(hi : prog.info? T = some i0)(hz : i0.size = k)(hr : row.length = k)(h1 : ∀v ∈ row, v.oneCell' = true)(g m : Nat)(hsz : cur.size = N * k)(hN : m ≤ N)(htk : cur.toList.take (m * k) = (List.replicate m row).flatten) :
    ∃cur',(∀W:World,W.heap[g]?=some (.cells cur T (0,0))→∀ty dc sc,(Builtin.copy_ #[ST,ST] ty #[.slice (some ⟨g,m*k,none⟩) (N-m) dc,.slice (some ⟨g,0,none⟩) m sc]).run prog W=.ok (.int .i64 (min m (N-m):Nat)) (W.setRow g cur'))∧cur'.size=N*k∧cur'.toList.take ((m+min m (N-m))*k)=(List.replicate (m+min m (N-m)) row).flatten:=by
 have hle:min m (N-m)≤m:=Nat.min_le_left _ _;have hle2:min m (N-m)≤N-m:=Nat.min_le_right _ _;obtain⟨t,ht⟩:∃t,t=min m (N-m):=⟨_,rfl⟩
 have ht':Nat.min m (N-m)=t:=ht.symm;rw[←ht]at hle hle2⊢;have hlen:=NM hr t;have hfit:m*k+t*k≤N*k:=by rw[←Nat.add_mul];exact Nat.mul_le_mul_right _ (by omega)
 have htm:t*k≤m*k:=Nat.mul_le_mul_right _ hle
 have:=fun(W:World) (hW:W.heap[g]?=some (.cells cur T (0,0))) ty dc sc=>gE (P:=prog) W ST ST ty T g (m*k) (N-m) dc ⟨g,0,none⟩ m sc cur T i0 (List.replicate t row).flatten hu hi hW
  (by rw[ht',hz,hlen]) (fun j v hj=>by
   have hjl:=(List.getElem?_eq_some_iff.1 hj).1;rw[hlen]at hjl;rw[Addr.add_lit,cell_of_row W g _ _ _ _ hW,←Array.getElem?_toList,Nat.zero_add]
   have h2:(cur.toList.take (m*k))[j]?=some v:=by
    rw[htk,show m=t+(m-t) by omega,IY,List.getElem?_append_left (by rw[hlen];exact hjl)];exact hj
   rw[List.getElem?_take_of_lt (by omega)]at h2
   exact h2) (by rw[hlen];omega) (NW h1 t)
 rw[ht']at this;refine⟨_,this,?_,?_⟩
 · rw[eZ (by rw[hlen];omega),hsz]
 have hl1:(cur.toList.take (m*k)).length=m*k:=by rw[List.length_take];simp;omega
 rw[IY,←htk,Nat.add_mul];simp only[bG];rw[show m*k+t*k=(cur.toList.take (m*k) ++(List.replicate t row).flatten).length by rw[List.length_append,hl1,hlen]];exact List.take_left
theorem sX (hu : prog.underlying ST = some (.slice T))(hi : prog.info? T = some i0)(hz : i0.size = k)(hr : row.length = k)(h1 : ∀v ∈ row, v.oneCell' = true)(W : World)(g b off : Nat)(hW : W.heap[g]? = some (.cells cur T (0, 0)))(hsz : cur.size = N * k)(hN : 1 ≤ N)(hc : ∀j v, row[j]? = some v → W.cell? ⟨b, off + j, none⟩ = some v) :
    ∃cur',(∀ty dc sc,(Builtin.copy_ #[ST,ST] ty #[.slice (some ⟨g,0,none⟩) N dc,.slice (some ⟨b,off,none⟩) 1 sc]).run prog W=.ok (.int .i64 1) (W.setRow g cur'))∧cur'.size=N*k∧cur'.toList.take (1*k)=(List.replicate 1 row).flatten:=by
 have hmn:Nat.min 1 N=1:=Nat.min_eq_left hN;have hk:k≤N*k:=Nat.le_mul_of_pos_left k hN
 have:=fun ty dc sc=>gE (P:=prog) W ST ST ty T g 0 N dc ⟨b,off,none⟩ 1 sc cur T i0 row hu hi hW
  (by rw[hz,hmn,hr,Nat.one_mul]) (fun j v hj=>by rw[Addr.add_lit];exact hc j v hj) (by omega) h1
 rw[hmn]at this;refine⟨_,this,?_,?_⟩
 · rw[eZ (by omega),hsz]
 simp[bG,←hr]
end
theorem AH (A : Option Addr)(c : Nat)(x : aL)(w : World)(h : S w 5 A 1 [bA x]) :
    Calls prog 87 #[.slice A 1 c,(60:Int)] w fun e w'=>∃A',e=.returned (.slice A' 60 60)∧S w' 5 A' 60 ((List.replicate 60 x).map bA)∧aA w w'∧aR w.heap.size A':=by
 obtain⟨i0,hi0,hz0,hz1,hz2⟩:=info_parts IU
 have hmk:∀w:World,(Instr.makeSlice 48 (.int .i64 60) (.int .i64 60)).run prog w=.ok (.slice (some ⟨w.heap.size,0,none⟩) 60 60) (w.alloc (.cells (madeCells (Value.agg #[(),(),(),(),()]).cells 300) 27)):=fun w=>by
  have:=run_makeSlice (P:=prog) w 48 27 i0 _ underlying48 hi0 hz0 .i64 .i64 60 60 (by omega) (by omega) (by rw[hz1];decide) (by rw[hz2];decide) (by omega);rw[hz1]at this;exact this
 have HC:=aH (fun g m cur=>vO (N:=60) (row:=bA x) (cur:=cur) underlying48 hi0 hz1 rfl (by simp[bA,Value.oneCell']) g m);have HC0:=aH (fun W g b off cur=>sX (N:=60) (row:=bA x) (cur:=cur) underlying48 hi0 hz1 rfl (by simp[bA,Value.oneCell']) W g b off);clear hi0 hz0 hz1 hz2;obtain⟨b,off,rfl,hb,hc⟩:=h.2.2 (by omega)
 have hc':Hid (∀j v,(bA x)[j]?=some v→w.cell? ⟨b,off+j,none⟩=some v):=aH fun j v hj=>by
  have:=hc 0 j (bA x) v (by rfl) hj;simpa using this
 clear hc h;go_enter func87,ntmps87;go_wp2_with fail;refine Calls.mono (tU 60 (by omega) _) ?_;rintro e w1⟨rfl,o1⟩;go_upto_region 7 with fail
 have hg:(w1.alloc (.cells (madeCells (Value.agg #[(),(),(),(),()]).cells 300) 27)).heap[w1.heap.size]?=some (.cells (madeCells (Value.agg #[(),(),(),(),()]).cells 300) 27 (0,0)):=mM rfl;have o2:aA w (w1.alloc (.cells (madeCells (Value.agg #[(),(),(),(),()]).cells 300) 27)):=aA.new o1 _;have hsz0:=size_madeCells (Value.agg #[(),(),(),(),()]).cells 300;have hwg:w.heap.size≤w1.heap.size:=o1.size;change Code.wp _ _ _ _ (w1.alloc (.cells (madeCells (Value.agg #[(),(),(),(),()]).cells 300) 27));generalize(w1.alloc (.cells (madeCells (Value.agg #[(),(),(),(),()]).cells 300) 27))=w2 at *;generalize madeCells (Value.agg #[(),(),(),(),()]).cells 300=cur0 at *;generalize w1.heap.size=g at *;obtain⟨cur1,hr1,hs1,ht1⟩:=HC0.out w2 g b off cur0 hg hsz0 (by omega) (fun j v hj=>aB o2 (hc'.out j v hj));have HG:=aH hg;have HR1:=aH hr1;have HT:Hid (cur1.size=60*5∧cur1.toList.take (1*5)=(List.replicate 1 (bA x)).flatten):=aH ⟨hs1,ht1⟩;clear hmk hg hr1 hs1 ht1 o1 hsz0;go_wp2_with (with_reducible refine gA _ rfl (.tmp 31) (.tmp 32) _ _ rfl _ _ rfl rfl (HR1.out _ _ _) ?_)
 go_loopw [8] (fun s wr=>∃ (m:Nat) (cur:Array Value),1≤m∧m≤60∧s=.int .i64 m∧Hid (wr.heap[g]?=some (.cells cur 27 (0,0)))∧Hid (cur.size=60*5∧cur.toList.take (m*5)=(List.replicate m (bA x)).flatten)∧aA w wr) (fun s _=>60-(intOf s).toNat)
 case atStart=>exact⟨1,cur1,Nat.le_refl _,by omega,rfl,setRow_heap _ _ _ _ _ _ HG.out,HT,aT o2 o2.size (eL _ _ _) (fun k hk=>by injection hk with hk;omega)⟩
 case round =>
  obtain⟨m,cur,h1,h60,rfl,HG2,HT2,ob⟩:=hrel;by_cases hlt:m<60
  · obtain⟨cur',hr,hs',ht'⟩:=HC.out g m cur HT2.out.1 h60 HT2.out.2;have hle:min m (60-m)≤60-m:=Nat.min_le_right _ _;have hge:1≤min m (60-m):=by rw[Nat.le_min];omega
    have hsl:∀w,(Instr.slice 48 (.slice (some ⟨g,0,none⟩) 60 60) (some (.int .i64 (m:Int))) none none).run prog w=.ok (.slice (some ⟨g,m*5,none⟩) (60-m) (60-m)) w:=fun w=>by
     rw[gO (some ⟨g,0,none⟩) 60 60 m underlying48 sizeOf27 h60 w,if_neg (by omega)];simp[Addr.add];omega
    have hmi:(m:Int)≤60:=by omega
    have hmi2:(m:Int)<60:=by omega
    generalize min m (60-m)=t at *;have hwr:IntKind.i64.wrap ((m:Int)+(t:Int))=(m:Int)+(t:Int):=by rw[IntKind.wrap_i64];omega
    have HR:=aH hr;have HT':=aH (show cur'.size=60*5∧_ from⟨hs',ht'⟩);clear hr hs' ht' HC HC0 HR1 HG HT;go_wp2_with fail
    go_region_law (refine iL _ rfl _ _ 48 48 rfl _ _ (by simp[Act.eval,Act.put];rfl) (by simp[Act.eval,Act.put];rfl) (HR.out _ (by exact HG2.out) _ _ _) ?_)
    go_wp2_with fail
    go_frame
    go_roundw
    case measure=>simp[intOf]<;>omega
    case rel =>
     refine⟨_,_,_,_,_,_,_,_,_,_,_,_,_,_,⟨m+t,cur',by omega,by omega,?_,setRow_heap _ g cur _ _ _ HG2.out,HT',aT (aA.draw ob) ob.size (eL _ _ _) (fun k hk=>by injection hk with hk;omega)⟩,rfl⟩;go_num
  obtain rfl:m=60:=by omega
  have hfin:S wr 5 (some ⟨g,0,none⟩) 60 ((List.replicate 60 x).map bA):=by
   have hlen:cur.toList=(List.replicate 60 (bA x)).flatten:=by
    rw[←HT2.out.2,List.take_of_length_le];have:=HT2.out.1;simp;omega
   have:=Sl.block (k:=5) (List.replicate 60 (bA x)) HG2.out (fun r hr=>by rw[(List.mem_replicate.1 hr).2];rfl) hlen;rw[List.map_replicate];rw[List.length_replicate]at this;exact this
  clear HC HC0 HR1 HG HT HG2 HT2;go_wp2_with fail;go_ret;exact⟨_,rfl,hfin,ob,fun a e=>by injection e with e;subst e;exact hwg⟩
theorem uP (w:World):Calls prog 46 #[] w fun e w'=>∃A,e=.returned (.agg #[(1:Int),.slice A 60 60])∧S w' 5 A 60 (jI.cells.map bA)∧aA w w'∧aR w.heap.size A:=by
 go_enter func46,ntmps46;go_wp2_with fail;refine Calls.mono (dU _) ?_;rintro e w1⟨rfl,o1⟩;have p0:w1.cell? ⟨w.heap.size,0,none⟩=some (.int .i64 0):=aB o1 (by simp[go_sem]);have p1:w1.cell? ⟨w.heap.size,1,none⟩=some (.slice none 0 0):=aB o1 (by simp[go_sem]);have f0:w1.frozen? ⟨w.heap.size,0,none⟩=false:=aJ (v:=.int .i64 0) o1 (by simp[go_sem]) (by simp[go_sem]);have f1:w1.frozen? ⟨w.heap.size,1,none⟩=false:=aJ (v:=.slice none 0 0) o1 (by simp[go_sem]) (by simp[go_sem]);have o2:=aA.to ((aA.Zz w).new _) o1;clear o1;go_wp2_with fail
 refine Calls.mono (AH _ 1 fK _ (by
  have:=Sl.one (w:=w1) (t:=27) fK
  exact S.of this (by simp))) ?_
 rintro e w3⟨A',rfl,hs,o3,hf⟩;have hz1:=World.block_lt_of_cell? _ _ p0;simp only at hz1;replace o3:=aA.to ((aA.Zz w1).new _) o3;replace f0:=aJ o3 p0 f0;replace f1:=aJ o3 p1 f1;replace p0:=aB o3 p0;replace p1:=aB o3 p1;replace o2:=aA.to o2 o3;have hz:=World.block_lt_of_cell? _ _ p0;simp only at hz;have ho:bQ 60 w.heap.size A':=hf.Zx (by simp;omega);clear o3;go_wp2_with fail;refine bodyPost_ret (v:=.agg #[(1:Int),.slice A' 60 60]) (by simp[results,results46,go_sem,p0,p1]) rfl ⟨A',rfl,(S.off hs ho _).off ho _,aA.put (aA.put o2 (by simp only;omega) _) (by simp only;omega) _,fun a e=>by have:=hf a e;simp at this;omega⟩
end
section
theorem CI (ep ep' : Int)(A A' : Option Addr)(c d : Nat)(us vs : List aL)(w : World)(h : S w 5 A 60 (us.map bA))(h' : S w 5 A' 60 (vs.map bA)) :
    Calls prog 32 #[.agg #[ep,.slice A 60 c],.agg #[ep',.slice A' 60 d]] w fun e w'=>e=.returned (.bool (decide (fO vs us)))∧aA w w':=by
 obtain⟨r,hr⟩:∃r,r=decide (fO vs us):=⟨_,rfl⟩
 rw[←hr];have HR:=aH hr;have hne:=rM;clear hr;go_enter func32,ntmps32;go_upto_region 1 with fail
 have o1:=((aA.Zz w).new (Obj.cells #[ep,.slice A 60 c] 50)).new (Obj.cells #[ep',.slice A' 60 d] 50);have BU:Bx ((w.alloc (Obj.cells #[ep,.slice A 60 c] 50)).alloc (Obj.cells #[ep',.slice A' 60 d] 50)) w.heap.size [ep,.slice A 60 c]:=(Bx.Zt _ _ _).new _
 have BV:Bx ((w.alloc (Obj.cells #[ep,.slice A 60 c] 50)).alloc (Obj.cells #[ep',.slice A' 60 d] 50)) (w.heap.size+1) [ep',.slice A' 60 d]:=by
  have:=Bx.Zt (w.alloc (Obj.cells #[ep,.slice A 60 c] 50)) #[ep',.slice A' 60 d] 50;simpa using this
 replace h:=h.oe o1;replace h':=h'.oe o1;change Code.wp _ _ _ _ ((w.alloc (Obj.cells #[ep,.slice A 60 c] 50)).alloc (Obj.cells #[ep',.slice A' 60 d] 50));generalize((w.alloc (Obj.cells #[ep,.slice A 60 c] 50)).alloc (Obj.cells #[ep',.slice A' 60 d] 50))=w1 at *;generalize hzu:w.heap.size=zu at BU BV;clear hzu;have u1:=BU.at_ 1 rfl;have v1:=BV.at_ 1 rfl;go_wp2_with fail
 go_loopw [10] (fun s ws=>∃k:Nat,k≤60∧s=.int .i64 k∧aA w1 ws∧Hid (∀j,j<k→(bF us j).kind=4∨bF vs j=bF us j)) (fun s _=>60-(intOf s).toNat)
 case atStart=>exact⟨0,by omega,rfl,Below.refl _ _,fun j hj=>absurd hj (Nat.not_lt_zero _)⟩
 case round =>
  obtain⟨k,hk,rfl,hbs,HJ⟩:=hrel;by_cases hkl:k<60
  · obtain⟨b1,off1,x,hA1,hz1,hx,c0,c1,c2,c3,c4⟩:=(h.oe hbs).atE hkl;obtain⟨b2,off2,y,hA2,hz2,hy,d0,d1,d2,d3,d4⟩:=(h'.oe hbs).atE hkl;have ev2:=aB hbs v1;have hz3:=World.block_lt_of_cell? _ _ ev2;simp only at hz3;rw[hA2]at ev2;rw[hA1];have HX:=aH (dH hx);have HY:=aH (dH hy);have hal2:aA wr (wr.alloc (Obj.cells #[x.kind,x.job,x.every,x.time,x.client] 27)):=(Below.refl _ _).alloc (Nat.le_refl _) _;have hkk:(k:Int)<60:=by omega
    clear hx hy u1 v1 BU BV hA1 hA2;by_cases h4:x.kind=4
    · have hd:(x.kind !=4)=false:=by simp[h4]
      have HH:=aH h4;clear h4;go_wp2_with fail;go_quiet (fail);go_wp2_with fail
      go_roundw
      case measure=>simp[intOf]<;>omega
      case rel =>
       refine⟨k+1,by omega,by go_num,aA.to hbs (aA.Zv hal2 _),?_⟩
       show∀j,_
       intro j hj;by_cases hjk:j=k
       · subst hjk;rw[HX.out];exact .inl HH.out
       exact HJ.out j (by omega)
    have hd:(x.kind !=4)=true:=by simpa using h4
    by_cases hxy:y=x
    · have hd2:(!(y.kind ==x.kind&&y.job ==x.job&&y.every ==x.every&&y.time ==x.time&&y.client ==x.client))=false:=by simp[hxy]
      have HH:=aH hxy;clear h4 hxy;go_wp2_with fail;go_quiet (fail);go_wp2_with fail
      go_roundw
      case measure=>simp[intOf]<;>omega
      case rel =>
       refine⟨k+1,by omega,by go_num,aA.to hbs (aA.Zv hal2 _),?_⟩
       show∀j,_
       intro j hj;by_cases hjk:j=k
       · subst hjk;rw[HX.out,HY.out];exact .inr HH.out
       exact HJ.out j (by omega)
    have hd2:(!(y.kind ==x.kind&&y.job ==x.job&&y.every ==x.every&&y.time ==x.time&&y.client ==x.client))=true:=by
     rw[cD]at hxy;simp only[Bool.not_eq_true',Bool.and_eq_false_iff,beq_eq_false_iff_ne];omega
    have hfin:false=r:=by
     rw[HR.out,eq_comm,decide_eq_false_iff_not];intro hf;have:=hf k hkl;rw[show bF us k=x from HX.out,show bF vs k=y from HY.out]at this;rcases this with e|e
     · exact h4 e
     exact hxy e
    have HF:=aH hfin;clear h4 hxy hfin;go_wp2_with fail;go_quiet (fail);go_wp2_with fail;go_ret;exact⟨QS HF.out,aA.to o1 (aA.to hbs (aA.Zv hal2 _))⟩
  obtain rfl:k=60:=by omega
  have hfin:true=r:=by
   rw[HR.out,eq_comm,decide_eq_true_eq];exact HJ.out
  have HF:=aH hfin;clear hfin;go_wp2_with fail;go_ret;exact⟨QS HF.out,aA.to o1 hbs⟩
end
section
attribute [local go_sem ↓] Go.wp_at_zero Go.wp_at_succ
theorem fD.bad {w w':World}{q:Int}{v:Value}(h:v=.tuple #[.agg #[(),Nat],q])(on:aA w w'):fD w qM q (.returned v) w':=⟨none,0,0,by rw[h];rfl,Sl.nil,on,aR.Zp _,by omega,by simp[maxLen]⟩
theorem DK.safe_only {w:World}{A A':Option Addr}{n c m d:Nat}{x:iM}(h:DK w A n c A' m d x):DK w A n c none 0 0 ⟨x.safe,[]⟩:=⟨h.safe,Sl.nil,h.n_le,h.c_le,by omega,by simp[maxLen]⟩
theorem CA (v : NV)(w : World)(E : fR w)(I : v.In w) :
    Calls prog 31 #[.agg #[v.x.u.ep,.slice v.A v.n v.c,.slice v.F v.k v.i,.slice v.G v.l v.j,.bool v.x.up]] w (fD w (bH v.x).1 (bH v.x).2):=by
 obtain⟨q,hq⟩:∃q,q=bE v.x.d:=⟨_,rfl⟩
 obtain⟨R1,hR1⟩:∃q,q=bN ⟨v.x.d.safe,[]⟩:=⟨_,rfl⟩
 obtain⟨U1,hU1⟩:∃q,q=cI R1.2.1:=⟨_,rfl⟩
 obtain⟨R2,hR2⟩:∃q,q=bN v.x.d:=⟨_,rfl⟩
 obtain⟨r,hr⟩:∃r,r=bH v.x:=⟨_,rfl⟩
 rw[←hr];unfold bH at hr;rw[←hq,←hR1,←hU1,←hR2]at hr;have hm:=I.disk.m_eq;rw[←hm]at hr;have HQ:=aH hq;have HR1:=aH hR1;have HU1:=aH hU1;have HR2:=aH hR2;have HR:=aH hr;have hcl:v.x.u.cells.length=v.n:=by have:=I.cells.len;simpa using this
 have hn6:v.n≤9223372036854775807:=by have:=I.le;have:=I.max;unfold maxLen at *;omega
 have HN6:=aH hn6;have hl6:v.l≤9223372036854775807:=by have:=I.disk.m_le;have:=I.disk.d_le;unfold maxLen at *;omega
 clear hq hR1 hU1 hR2 hr hm hcl hn6;go_enter func31,ntmps31;go_upto_region 1 with fail
 have on:=((aA.Zz w).new (Obj.cells #[v.x.u.ep,.slice v.A v.n v.c,.slice v.F v.k v.i,.slice v.G v.l v.j,.bool v.x.up] 55)).new (Obj.cells #[(),Nat] 50);have B:Bx ((w.alloc (Obj.cells #[v.x.u.ep,.slice v.A v.n v.c,.slice v.F v.k v.i,.slice v.G v.l v.j,.bool v.x.up] 55)).alloc (Obj.cells #[(),Nat] 50)) w.heap.size [v.x.u.ep,.slice v.A v.n v.c,.slice v.F v.k v.i,.slice v.G v.l v.j,.bool v.x.up]:=(Bx.Zt _ _ _).new _
 have Z:Bx ((w.alloc (Obj.cells #[v.x.u.ep,.slice v.A v.n v.c,.slice v.F v.k v.i,.slice v.G v.l v.j,.bool v.x.up] 55)).alloc (Obj.cells #[(),Nat] 50)) (w.heap.size+1) [(),Nat]:=by
  have:=Bx.Zt (w.alloc (Obj.cells #[v.x.u.ep,.slice v.A v.n v.c,.slice v.F v.k v.i,.slice v.G v.l v.j,.bool v.x.up] 55)) #[(),Nat] 50;simpa using this
 have hz1:w.heap.size≤w.heap.size+1:=by omega
 have hz2:w.heap.size≠w.heap.size+1:=by omega
 change Code.wp _ _ _ _ ((w.alloc (Obj.cells #[v.x.u.ep,.slice v.A v.n v.c,.slice v.F v.k v.i,.slice v.G v.l v.j,.bool v.x.up] 55)).alloc (Obj.cells #[(),Nat] 50));generalize((w.alloc (Obj.cells #[v.x.u.ep,.slice v.A v.n v.c,.slice v.F v.k v.i,.slice v.G v.l v.j,.bool v.x.up] 55)).alloc (Obj.cells #[(),Nat] 50))=w1 at *;generalize w.heap.size+1=z at Z hz1 hz2;generalize hzb:w.heap.size=zb at B hz2;clear hzb;replace I:=I.oe on;have b2:=B.at_ 2 rfl;have b3:=B.at_ 3 rfl;go_wp2_with fail;refine Calls.mono (gX v.F v.G v.k v.i v.l v.j v.x.d _ (E.oe on) I.disk) ?_;rintro e w2⟨rfl,b⟩;rw[show bE v.x.d=q from HQ.out.symm];replace on:=on.to b;replace B:=B.oe b;replace Z:=Z.oe b;replace I:=I.oe b;clear b b2 b3;by_cases hq0:q=0
 · subst hq0;have hr:=HR.out;rw[if_neg (by simp)]at hr;replace HR:=aH hr;clear hr;go_upto_region 4 with fail
   obtain⟨b0,b1,b2,b3,b4⟩:=B.p5;obtain⟨c0,c1⟩:=Z.p2;have g0:=Z.Zy 0;have g1:=Z.Zy 1;by_cases hup:v.x.up=true∧0<v.l
   · have hr:=HR.out;rw[if_pos hup]at hr;have HR2:=aH hr;obtain⟨hu1,hu2⟩:=hup;have hu3:(0:Int)<(v.l:Int):=by omega
     clear hr HR;rw[hu1]at b4;go_wp2_with fail;refine bodyPost_ret (v:=.tuple #[.agg #[(),Nat],(4:Int)]) (by simp[results,results31,go_sem,c0,c1,g0,g1]) rfl ?_;rw[HR2.out];exact fD.bad rfl ((on.put hz1 _).put hz1 _)
   have hr:=HR.out;rw[if_neg hup]at hr;replace HR:=aH hr;clear hr
   have hup2:v.x.up=false∨(v.x.up=true∧v.l=0):=by
    rcases Bool.eq_false_or_eq_true v.x.up with h|h
    · exact .inr ⟨h,Nat.eq_zero_of_not_pos fun h0=>hup ⟨h,h0⟩⟩
    exact .inl h
   clear hup;rcases hup2 with hu1| ⟨hu1,hu2⟩
   · rw[hu1]at b4;go_upto_region 6 with fail
     clear hu1;clear c0 c1 g0 g1 b0 b1 b3 b4;go_wp2_with fail;refine Calls.mono (gL v.F none v.k v.i 0 0 ⟨v.x.d.safe,[]⟩ _ (E.oe on) I.disk.safe_only) ?_;rw[show bN ⟨v.x.d.safe,[]⟩=R1 from HR1.out.symm];unfold nE;rintro e w3⟨F1,k1,i1,G1,l1,j1,L,ln,ly,rfl,_,sL,_,_,_,_,_,b⟩;replace on:=on.to b;replace B:=B.oe b;replace Z:=Z.oe b;replace I:=I.oe b;clear b b2;go_upto_region 7 with fail
     have ob:=(aA.Zz w3).new (Obj.cells #[.slice F1 k1 i1,.slice G1 l1 j1] 53);replace on:=on.to ob;replace B:=B.oe ob;replace Z:=Z.oe ob;replace I:=I.oe ob;replace sL:=sL.oe ob;clear ob
     try change Code.wp _ _ _ _ (w3.alloc (Obj.cells #[.slice F1 k1 i1,.slice G1 l1 j1] 53))
     generalize(w3.alloc (Obj.cells #[.slice F1 k1 i1,.slice G1 l1 j1] 53))=w4 at *;generalize w3.heap.size=zd at *;go_wp2_with fail;refine Calls.mono (gN L ln ly R1.2.1 _ sL) ?_;rw[show cI R1.2.1=U1 from HU1.out.symm];unfold fD;rintro e w5⟨A1,n1,c1,rfl,s1,b,_,_,_⟩;replace on:=on.to b;replace B:=B.oe b;replace Z:=Z.oe b;replace I:=I.oe b;clear b sL;go_upto_region 8 with fail
     refine aW (v1:=[U1.1.ep,.slice A1 n1 c1]) rfl fun w6 ob X=>?_
     replace on:=on.to ob;replace B:=B.oe ob;replace Z:=Z.oe ob;replace I:=I.oe ob;replace s1:=s1.oe ob;clear ob;generalize w5.heap.size=zx at *;have hn1:n1≤60:=by have:=s1.len;have h2:=tI R1.2.1;rw[←HU1.out]at h2;simp at this;omega
     have hn16:n1≤9223372036854775807:=by omega
     have HN1:=aH hn16;clear hn1 hn16;obtain⟨q2,hq2⟩:∃q,q=U1.2:=⟨_,rfl⟩
     rw[←hq2];have hr:=HR.out;rw[←hq2]at hr;replace HR:=aH hr;clear hr hq2;obtain⟨b0,b1⟩:=B.p2;obtain⟨x0,x1⟩:=X.p2;by_cases hq20:q2=0
     · subst hq20;go_wp2_with fail;refine Calls.mono (pB U1.1.ep v.x.u.ep A1 v.A n1 c1 v.n v.c U1.1.cells v.x.u.cells _ s1 I.cells HN1.out) ?_;rintro e w7⟨rfl,b⟩;replace on:=on.to b;replace B:=B.oe b;replace Z:=Z.oe b;replace I:=I.oe b;clear b b0 b1 x0 x1 X s1;have hr:=HR.out;rw[if_neg (by simp)]at hr;by_cases hs:U1.1=v.x.u
       · rw[if_neg (by simpa using hs)]at hr;have HR2':=aH hr;have hsd:decide ((⟨U1.1.ep,U1.1.cells⟩:eM)=⟨v.x.u.ep,v.x.u.cells⟩)=true:=by rw[decide_eq_true_eq];exact hs
         rw[hsd];clear hr HR hs hsd;have b2:=B.at_ 2 rfl;have b3:=B.at_ 3 rfl;go_wp2_with fail;refine Calls.mono (gL v.F v.G v.k v.i v.l v.j v.x.d _ (E.oe on) I.disk) ?_;rw[show bN v.x.d=R2 from HR2.out.symm];unfold nE;rintro e w8⟨F2,k2,i2,G2,l2,j2,L2,ln2,ly2,rfl,_,sL,_,_,_,_,_,b⟩;replace on:=on.to b;replace Z:=Z.oe b;clear b b2 b3 B I;go_wp2_with fail;refine Calls.mono (gN L2 ln2 ly2 R2.2.1 _ sL) ?_;rw[←HR2'.out];unfold fD;rintro e w9⟨A3,n3,c3,rfl,s3,b,f3,hc3,hm3⟩;have hzl:=Z.lt;have o3:bQ n3 z A3:=f3.Zx hzl;have f3':aR w.heap.size A3:=fun a e=>Nat.le_trans on.size (f3 a e)
         replace on:=on.to b;replace Z:=Z.oe b;clear b sL f3;obtain⟨c0,c1⟩:=Z.p2;have g0:=Z.Zy 0;have g1:=Z.Zy 1;go_wp2_with fail;refine bodyPost_ret (v:=.tuple #[.agg #[r.1.ep,.slice A3 n3 c3],r.2]) (by simp[results,results31,go_sem,c0,c1,g0,g1]) rfl ?_;exact⟨A3,n3,c3,rfl,S.off (S.off s3 o3 _) o3 _,(on.put hz1 _).put hz1 _,f3',hc3,hm3⟩
       rw[if_pos (by simpa using hs)]at hr;have HR2':=aH hr
       have hsd:decide ((⟨U1.1.ep,U1.1.cells⟩:eM)=⟨v.x.u.ep,v.x.u.cells⟩)=false:=by
        rw[decide_eq_false_iff_not];exact hs
       rw[hsd];clear hr HR hs hsd;obtain⟨c0,c1⟩:=Z.p2;have g0:=Z.Zy 0;have g1:=Z.Zy 1;go_wp2_with fail;refine bodyPost_ret (v:=.tuple #[.agg #[(),Nat],(4:Int)]) (by simp[results,results31,go_sem,c0,c1,g0,g1]) rfl ?_;rw[HR2'.out];exact fD.bad rfl ((on.put hz1 _).put hz1 _)
     have hr:=HR.out;rw[if_pos hq20]at hr;have HR2':=aH hr;have hqd:(q2 !=0)=true:=by simpa using hq20
     have hqe:(q2 ==0)=false:=by simpa using hq20
     clear hr HR hq20;obtain⟨c0,c1⟩:=Z.p2;have g0:=Z.Zy 0;have g1:=Z.Zy 1;go_wp2_with fail;refine bodyPost_ret (v:=.tuple #[.agg #[(),Nat],q2]) (by simp[results,results31,go_sem,c0,c1,g0,g1]) rfl ?_;rw[HR2'.out];exact fD.bad rfl ((on.put hz1 _).put hz1 _)
   rw[hu1]at b4;rw[hu2]at b3;go_upto_region 6 with fail
   clear hu1 hu2;clear c0 c1 g0 g1 b0 b1 b3 b4;go_wp2_with fail;refine Calls.mono (gL v.F none v.k v.i 0 0 ⟨v.x.d.safe,[]⟩ _ (E.oe on) I.disk.safe_only) ?_;rw[show bN ⟨v.x.d.safe,[]⟩=R1 from HR1.out.symm];unfold nE;rintro e w3⟨F1,k1,i1,G1,l1,j1,L,ln,ly,rfl,_,sL,_,_,_,_,_,b⟩;replace on:=on.to b;replace B:=B.oe b;replace Z:=Z.oe b;replace I:=I.oe b;clear b b2;go_upto_region 7 with fail
   have ob:=(aA.Zz w3).new (Obj.cells #[.slice F1 k1 i1,.slice G1 l1 j1] 53);replace on:=on.to ob;replace B:=B.oe ob;replace Z:=Z.oe ob;replace I:=I.oe ob;replace sL:=sL.oe ob;clear ob
   try change Code.wp _ _ _ _ (w3.alloc (Obj.cells #[.slice F1 k1 i1,.slice G1 l1 j1] 53))
   generalize(w3.alloc (Obj.cells #[.slice F1 k1 i1,.slice G1 l1 j1] 53))=w4 at *;generalize w3.heap.size=zd at *;go_wp2_with fail;refine Calls.mono (gN L ln ly R1.2.1 _ sL) ?_;rw[show cI R1.2.1=U1 from HU1.out.symm];unfold fD;rintro e w5⟨A1,n1,c1,rfl,s1,b,_,_,_⟩;replace on:=on.to b;replace B:=B.oe b;replace Z:=Z.oe b;replace I:=I.oe b;clear b sL;go_upto_region 8 with fail
   refine aW (v1:=[U1.1.ep,.slice A1 n1 c1]) rfl fun w6 ob X=>?_
   replace on:=on.to ob;replace B:=B.oe ob;replace Z:=Z.oe ob;replace I:=I.oe ob;replace s1:=s1.oe ob;clear ob;generalize w5.heap.size=zx at *;have hn1:n1≤60:=by have:=s1.len;have h2:=tI R1.2.1;rw[←HU1.out]at h2;simp at this;omega
   have hn16:n1≤9223372036854775807:=by omega
   have HN1:=aH hn16;clear hn1 hn16;obtain⟨q2,hq2⟩:∃q,q=U1.2:=⟨_,rfl⟩
   rw[←hq2];have hr:=HR.out;rw[←hq2]at hr;replace HR:=aH hr;clear hr hq2;obtain⟨b0,b1⟩:=B.p2;obtain⟨x0,x1⟩:=X.p2;by_cases hq20:q2=0
   · subst hq20;go_wp2_with fail;refine Calls.mono (pB U1.1.ep v.x.u.ep A1 v.A n1 c1 v.n v.c U1.1.cells v.x.u.cells _ s1 I.cells HN1.out) ?_;rintro e w7⟨rfl,b⟩;replace on:=on.to b;replace B:=B.oe b;replace Z:=Z.oe b;replace I:=I.oe b;clear b b0 b1 x0 x1 X s1;have hr:=HR.out;rw[if_neg (by simp)]at hr;by_cases hs:U1.1=v.x.u
     · rw[if_neg (by simpa using hs)]at hr;have HR2':=aH hr;have hsd:decide ((⟨U1.1.ep,U1.1.cells⟩:eM)=⟨v.x.u.ep,v.x.u.cells⟩)=true:=by rw[decide_eq_true_eq];exact hs
       rw[hsd];clear hr HR hs hsd;have b2:=B.at_ 2 rfl;have b3:=B.at_ 3 rfl;go_wp2_with fail;refine Calls.mono (gL v.F v.G v.k v.i v.l v.j v.x.d _ (E.oe on) I.disk) ?_;rw[show bN v.x.d=R2 from HR2.out.symm];unfold nE;rintro e w8⟨F2,k2,i2,G2,l2,j2,L2,ln2,ly2,rfl,_,sL,_,_,_,_,_,b⟩;replace on:=on.to b;replace Z:=Z.oe b;clear b b2 b3 B I;go_wp2_with fail;refine Calls.mono (gN L2 ln2 ly2 R2.2.1 _ sL) ?_;rw[←HR2'.out];unfold fD;rintro e w9⟨A3,n3,c3,rfl,s3,b,f3,hc3,hm3⟩;have hzl:=Z.lt;have o3:bQ n3 z A3:=f3.Zx hzl;have f3':aR w.heap.size A3:=fun a e=>Nat.le_trans on.size (f3 a e)
       replace on:=on.to b;replace Z:=Z.oe b;clear b sL f3;obtain⟨c0,c1⟩:=Z.p2;have g0:=Z.Zy 0;have g1:=Z.Zy 1;go_wp2_with fail;refine bodyPost_ret (v:=.tuple #[.agg #[r.1.ep,.slice A3 n3 c3],r.2]) (by simp[results,results31,go_sem,c0,c1,g0,g1]) rfl ?_;exact⟨A3,n3,c3,rfl,S.off (S.off s3 o3 _) o3 _,(on.put hz1 _).put hz1 _,f3',hc3,hm3⟩
     rw[if_pos (by simpa using hs)]at hr;have HR2':=aH hr
     have hsd:decide ((⟨U1.1.ep,U1.1.cells⟩:eM)=⟨v.x.u.ep,v.x.u.cells⟩)=false:=by
      rw[decide_eq_false_iff_not];exact hs
     rw[hsd];clear hr HR hs hsd;obtain⟨c0,c1⟩:=Z.p2;have g0:=Z.Zy 0;have g1:=Z.Zy 1;go_wp2_with fail;refine bodyPost_ret (v:=.tuple #[.agg #[(),Nat],(4:Int)]) (by simp[results,results31,go_sem,c0,c1,g0,g1]) rfl ?_;rw[HR2'.out];exact fD.bad rfl ((on.put hz1 _).put hz1 _)
   have hr:=HR.out;rw[if_pos hq20]at hr;have HR2':=aH hr;have hqd:(q2 !=0)=true:=by simpa using hq20
   have hqe:(q2 ==0)=false:=by simpa using hq20
   clear hr HR hq20;obtain⟨c0,c1⟩:=Z.p2;have g0:=Z.Zy 0;have g1:=Z.Zy 1;go_wp2_with fail;refine bodyPost_ret (v:=.tuple #[.agg #[(),Nat],q2]) (by simp[results,results31,go_sem,c0,c1,g0,g1]) rfl ?_;rw[HR2'.out];exact fD.bad rfl ((on.put hz1 _).put hz1 _)
 have hr:=HR.out;rw[if_pos hq0]at hr;have HR2:=aH hr;have hqd:(q !=0)=true:=by simpa using hq0
 clear hr HR hq0;obtain⟨c0,c1⟩:=Z.p2;have g0:=Z.Zy 0;have g1:=Z.Zy 1;go_wp2_with fail;refine bodyPost_ret (v:=.tuple #[.agg #[(),Nat],q]) (by simp[results,results31,go_sem,c0,c1,g0,g1]) rfl ?_;rw[HR2.out];exact fD.bad rfl ((on.put hz1 _).put hz1 _)
end
section
attribute [local go_sem ↓] Go.wp_at_zero Go.wp_at_succ
def qX (l:List iC):Nat→Option eM
 |0=>none
 |k+1=>l[k]?.map (·.u)
theorem GM {l : List iC}{o : Option eM}{k : Nat}{x : iC}(hx : l[k]? = some x) : cK o (l.drop k) = if(bH x).2 ≠ 0 then(bH x).2 else
    match o with
    |none=>cK (some x.u) (l.drop (k+1))
    |some p=>if fO p.cells (bH x).1.cells then cK (some x.u) (l.drop (k+1))else 4:=by
  obtain⟨h,rfl⟩:=List.getElem?_eq_some_iff.1 hx;rw[List.drop_eq_getElem_cons h];rfl
theorem FA {ns : List iC}{l : List eB}{k : Nat}{c : eB}(hx : l[k]? = some c) : cX ns (l.drop k) = if aP c ≠ 0 then aP c
    else if c.doing=2∧0<c.link∧bF (aV ns (c.link.toNat-1)).u.cells c.at_.toNat≠c.e then 4 else cX ns (l.drop (k+1)):=by
 obtain⟨h,rfl⟩:=List.getElem?_eq_some_iff.1 hx;rw[List.drop_eq_getElem_cons h];rfl
theorem EP {x:iC}(h:(bH x).2=0):x.u.cells.length=60∧(bH x).1.cells.length=60:=by
 obtain⟨l,m,hn⟩:=fX h;exact⟨hn.good.1.len,hn.good.2.len⟩
theorem JZ {w:iA}(h1:w.n.length=3)(h2:w.c.length=3)(h3:¬ (w.tip<0∨60<w.tip∨w.time<0∨100000<w.time)):dL w=if cK none w.n≠0 then cK none w.n else cX w.n w.c:=by
 unfold dL;rw[if_neg (by omega),if_neg h3]
theorem nA (A : Option Addr)(n c : Nat)(tip : Int)(C : Option Addr)(m d : Nat)(time : Int)(ns : List NV)(cs : List CV)(w : World)(E : fR w)(R : WR w A n C m ns cs) :
    Calls prog 8 #[.agg #[.slice A n c,tip,.slice C m d,time]] w fun e w'=>e=.returned (.int .i64 (dL (aY ns tip cs time)))∧aA w w':=by
 obtain⟨r,hr⟩:∃r,r=dL (aY ns tip cs time):=⟨_,rfl⟩
 rw[←hr];have hnl:=R.nlen;have hcl:=R.clen;have hne:=rM;by_cases h3:n=3∧m=3
 · obtain⟨rfl,rfl⟩:=h3;by_cases hrg:tip<0∨60<tip∨time<0∨100000<time
   · have hr3:(3:Int)=r:=by rw[hr];unfold dL;rw[if_neg (by simp[hnl,hcl]),if_pos hrg]
     have HR:=aH hr3;clear hr hr3 hnl hcl R;rcases Decidable.em (tip<0)with h1|h1
     · clear hrg;go_enter func8,ntmps8;go_wp2_with fail;go_ret;exact⟨aO HR.out,by repeat(first|exact aA.Zz _|refine aA.new ?_ _)⟩
     rcases Decidable.em (60<tip)with h2|h2
     · clear hrg;go_enter func8,ntmps8;go_wp2_with fail;go_ret;exact⟨aO HR.out,by repeat(first|exact aA.Zz _|refine aA.new ?_ _)⟩
     rcases Decidable.em (time<0)with h4|h4
     · clear hrg;go_enter func8,ntmps8;go_wp2_with fail;go_ret;exact⟨aO HR.out,by repeat(first|exact aA.Zz _|refine aA.new ?_ _)⟩
     have h5:100000<time:=by omega
     clear hrg;go_enter func8,ntmps8;go_wp2_with fail;go_ret;exact⟨aO HR.out,by repeat(first|exact aA.Zz _|refine aA.new ?_ _)⟩
   obtain⟨rN,hrN⟩:∃q,q=cK none (bC ns):=⟨_,rfl⟩
   have hr2:=JZ (w:=aY ns tip cs time) (by simp[hnl]) (by simp[hcl]) hrg;rw[←hr,show(aY ns tip cs time).n=bC ns from rfl,show(aY ns tip cs time).c=bL cs from rfl,←hrN]at hr2;have HR:=aH hr2;have HN:=aH hrN;have HNL:=aH hnl;have HCL:=aH hcl;have h1:¬tip<0:=by omega
   have h2:¬60<tip:=by omega
   have h4:¬time<0:=by omega
   have h5:¬100000<time:=by omega
   clear hr hr2 hrN hnl hcl hrg;go_enter func8,ntmps8;go_upto_region 5 with fail
   refine aW (v1:=[.slice A 3 c,tip,.slice C 3 d,time]) rfl fun w1 on Z=>?_
   replace R:=R.oe on;generalize hzz:w.heap.size=z at Z;clear hzz h1 h2 h4 h5;have z0:=Z.at_ 0 rfl;go_wp2_with fail
   go_loopw [41] (fun s wr=>∃k:Nat,k≤3∧s=.int .i64 k∧aA w wr∧Bx wr z [.slice A 3 c,tip,.slice C 3 d,time]∧WR wr A 3 C 3 ns cs∧Hid (rN=cK (qX (bC ns) k) ((bC ns).drop k))∧Hid (∀j v,j<k→ns[j]?=some v→v.n=60∧v.x.u.cells.length=60)) (fun s _=>3-(intOf s).toNat)
   case atStart=>exact⟨0,by omega,rfl,on,Z,R,by show _=_;rw[HN.out];rfl,fun j v hj=>absurd hj (Nat.not_lt_zero _)⟩
   case round =>
    clear R Z on z0;obtain⟨i,hi,rfl,on,Z,R,HK,HL⟩:=hrel;by_cases hlt:i<3
    · obtain⟨b,off,v,rfl,hb,hv,I,d0,d1,d2,d3,d4⟩:=R.atN hlt
      have p0:0<i→∃u,ns[i-1]?=some u∧wr.cell? ⟨b,off+(i-1)*5,none⟩=some (.int .i64 u.x.u.ep)∧wr.cell? ⟨b,off+(i-1)*5+1,none⟩=some (.slice u.A u.n u.c)∧u.In wr∧u.n=60:=by
       intro hp;obtain⟨b',off',u,e',_,hu,Iu,e0,e1,_⟩:=R.atN (i:=i-1) (by omega);injection e' with e';injection e' with e1' e2' _;subst e1';subst e2';exact⟨u,hu,e0,e1,Iu,(HL.out _ u (by omega) hu).1⟩
      have hvn:(bC ns)[i]?=some v.x:=by simp[bC,hv]
      have hk:=HK.out;rw[GM hvn]at hk;obtain⟨q,hq⟩:∃q,q=(bH v.x).2:=⟨_,rfl⟩
      rw[←hq]at hk;have HK2:=aH hk;have HV:=aH hv;have HVN:=aH hvn;have HQ:=aH hq;have hvl:v.x.u.cells.length=v.n:=by have:=I.cells.len;simpa using this
      have HVL:=aH hvl;clear hk hv hvn hq HK hvl;go_upto_region 8 with fail
      have ob:=(aA.Zz wr).new (Obj.cells #[v.x.u.ep,.slice v.A v.n v.c,.slice v.F v.k v.i,.slice v.G v.l v.j,.bool v.x.up] 55);have V:Bx (wr.alloc (Obj.cells #[v.x.u.ep,.slice v.A v.n v.c,.slice v.F v.k v.i,.slice v.G v.l v.j,.bool v.x.up] 55)) wr.heap.size [v.x.u.ep,.slice v.A v.n v.c,.slice v.F v.k v.i,.slice v.G v.l v.j,.bool v.x.up]:=Bx.Zt _ _ _;replace on:=on.to ob;replace Z:=Z.oe ob;replace R:=R.oe ob;replace I:=I.oe ob
      have p1:0<i→∃u,ns[i-1]?=some u∧(wr.alloc (Obj.cells #[v.x.u.ep,.slice v.A v.n v.c,.slice v.F v.k v.i,.slice v.G v.l v.j,.bool v.x.up] 55)).cell? ⟨b,off+(i-1)*5,none⟩=some (.int .i64 u.x.u.ep)∧(wr.alloc (Obj.cells #[v.x.u.ep,.slice v.A v.n v.c,.slice v.F v.k v.i,.slice v.G v.l v.j,.bool v.x.up] 55)).cell? ⟨b,off+(i-1)*5+1,none⟩=some (.slice u.A u.n u.c)∧u.In (wr.alloc (Obj.cells #[v.x.u.ep,.slice v.A v.n v.c,.slice v.F v.k v.i,.slice v.G v.l v.j,.bool v.x.up] 55))∧u.n=60:=fun hp=>by
       obtain⟨u,g1,g2,g3,g4,g5⟩:=p0 hp;exact⟨u,g1,aB ob g2,aB ob g3,g4.oe ob,g5⟩
      clear ob d0 d1 d2 d3 d4 p0 hb
      try change Code.wp _ _ _ _ (wr.alloc (Obj.cells #[v.x.u.ep,.slice v.A v.n v.c,.slice v.F v.k v.i,.slice v.G v.l v.j,.bool v.x.up] 55))
      generalize(wr.alloc (Obj.cells #[v.x.u.ep,.slice v.A v.n v.c,.slice v.F v.k v.i,.slice v.G v.l v.j,.bool v.x.up] 55))=w2 at *;generalize wr.heap.size=zv at *;obtain⟨v0,v1,v2,v3,v4⟩:=V.p5;go_wp2_with fail;refine Calls.mono (CA v _ (E.oe on) I) ?_;rw[show(bH v.x).2=q from HQ.out.symm];unfold fD;rintro e w3⟨A1,n1,c1,rfl,s1,ob,_,_,_⟩;replace on:=on.to ob;replace Z:=Z.oe ob;replace R:=R.oe ob;replace I:=I.oe ob
      have p2:0<i→∃u,ns[i-1]?=some u∧w3.cell? ⟨b,off+(i-1)*5,none⟩=some (.int .i64 u.x.u.ep)∧w3.cell? ⟨b,off+(i-1)*5+1,none⟩=some (.slice u.A u.n u.c)∧u.In w3∧u.n=60:=fun hp=>by
       obtain⟨u,g1,g2,g3,g4,g5⟩:=p1 hp;exact⟨u,g1,aB ob g2,aB ob g3,g4.oe ob,g5⟩
      clear ob v0 v1 v2 v3 v4 V p1;by_cases hq0:q=0
      · subst hq0;have hk:=HK2.out;rw[if_neg (by simp)]at hk;have HK3:=aH hk;have hls:=EP HQ.out.symm;have hn1:n1=60:=by have:=s1.len;simp at this;omega
        have hvn:v.n=60:=by rw[←HVL.out];exact hls.1
        have hls1:=hls.1;subst hn1;have HLS:=aH hls1;clear hk HK2 hls hls1;go_upto_region 11 with fail
        have ob:=(aA.Zz w3).new (Obj.cells #[.int .i64 (bH v.x).1.ep,.slice A1 60 c1] 50);have U:Bx (w3.alloc (Obj.cells #[.int .i64 (bH v.x).1.ep,.slice A1 60 c1] 50)) w3.heap.size [.int .i64 (bH v.x).1.ep,.slice A1 60 c1]:=Bx.Zt _ _ _;replace on:=on.to ob;replace Z:=Z.oe ob;replace R:=R.oe ob;replace I:=I.oe ob;replace s1:=s1.oe ob
        have p3:0<i→∃u,ns[i-1]?=some u∧(w3.alloc (Obj.cells #[.int .i64 (bH v.x).1.ep,.slice A1 60 c1] 50)).cell? ⟨b,off+(i-1)*5,none⟩=some (.int .i64 u.x.u.ep)∧(w3.alloc (Obj.cells #[.int .i64 (bH v.x).1.ep,.slice A1 60 c1] 50)).cell? ⟨b,off+(i-1)*5+1,none⟩=some (.slice u.A u.n u.c)∧u.In (w3.alloc (Obj.cells #[.int .i64 (bH v.x).1.ep,.slice A1 60 c1] 50))∧u.n=60:=fun hp=>by
         obtain⟨u,g1,g2,g3,g4,g5⟩:=p2 hp;exact⟨u,g1,aB ob g2,aB ob g3,g4.oe ob,g5⟩
        clear ob p2
        try change Code.wp _ _ _ _ (w3.alloc (Obj.cells #[.int .i64 (bH v.x).1.ep,.slice A1 60 c1] 50))
        generalize(w3.alloc (Obj.cells #[.int .i64 (bH v.x).1.ep,.slice A1 60 c1] 50))=w4 at *;generalize w3.heap.size=zu at *
        have hrel2:Hid (∀j u,j<i+1→ns[j]?=some u→u.n=60∧u.x.u.cells.length=60):=aH fun j u hj hu=>by
         by_cases hji:j=i
         · subst hji;rw[HV.out]at hu;injection hu with hu;subst hu;exact⟨hvn,HLS.out⟩
         exact HL.out j u (by omega) hu
        have hah:qX (bC ns) (i+1)=some v.x.u:=by simp[qX,HVN.out]
        have HAH:=aH hah;clear hah HL;rcases Nat.eq_zero_or_pos i with rfl|hpos
        · have hk:=HK3.out;have HK4:Hid (rN=cK (qX (bC ns) 1) ((bC ns).drop 1)):=aH (by rw[HAH.out];exact hk);clear hk HK3 p3;go_quiet (fail);go_wp2_with fail
          go_roundw
          case measure=>simp[intOf]<;>omega
          case rel=>exact⟨1,by omega,rfl,on.Zv _,Z.Zv _,R.oe ((aA.Zz _).Zv _),HK4,hrel2⟩
        obtain⟨u,hu,e0,e1,Iu,hu60⟩:=p3 hpos;obtain⟨i',rfl⟩:∃i',i=i'+1:=⟨i-1,by omega⟩
        simp only[Nat.add_sub_cancel]at hu e0 e1;have ha:qX (bC ns) (i'+1)=some u.x.u:=by simp[qX,bC,hu]
        have hk:=HK3.out;rw[ha]at hk;dsimp only at hk;have HK4:=aH hk;clear hk ha hu HK3 p3;rw[hu60]at e1;have su:=Iu.cells;rw[hu60]at su;obtain⟨f,hf⟩:∃f,f=decide (fO u.x.u.cells (bH v.x).1.cells):=⟨_,rfl⟩
        have HF:=aH hf;clear hf;have hw1:((i'+1:Nat):Int)-1=(i':Int):=by omega
        have hi3:(i':Int)<3:=by omega
        have hg:decide (((i'+1:Nat):Int) > 0)=true:=by simp<;>omega
        have z0:=Z.at_ 0 rfl;obtain⟨u0,u1⟩:=U.p2;have oz0:=aC z0;have ou0:=aC u0;have ou1:=aC u1;have oe0:=aC e0;have oe1:=aC e1;refine aS (by kernel_rfl) (by kernel_rfl) ?_
        repeat(go_big_quiet_step ((first
         | (go_at_call 32;exact bT (u:=.bool f) (CI (bH v.x).1.ep u.x.u.ep A1 u.A c1 u.c (bH v.x).1.cells u.x.u.cells _ (S.ontoX s1 _) (S.ontoX su _)) (by rw[HF.out])))))
        refine wpQuiet_nil ?_;intro w5 ob;clear oz0 ou0 ou1 oe0 oe1 u0 u1 e0 e1 z0;replace on:=on.to ob;replace Z:=Z.oe ob;replace R:=R.oe ob;clear ob s1 su U Iu I;rcases Bool.eq_false_or_eq_true f with hft|hft
        · have hk:=HK4.out;rw[if_pos (by have:=HF.out;rw[hft]at this;exact of_decide_eq_true this.symm)]at hk;have HK5:Hid (rN=cK (qX (bC ns) (i'+1+1)) ((bC ns).drop (i'+1+1))):=aH (by rw[HAH.out];exact hk);subst hft;clear hk HK4 HF;go_wp2_with fail
          go_roundw
          case measure=>simp[intOf]<;>omega
          case rel=>exact⟨i'+1+1,by omega,by go_num,on,Z,R,HK5,hrel2⟩
        have hk:=HK4.out;rw[if_neg (by have:=HF.out;rw[hft]at this;exact of_decide_eq_false this.symm)]at hk;have hfin:(4:Int)=r:=by rw[HR.out,if_pos (by rw[hk];simp),hk]
        have HFI:=aH hfin;subst hft;clear hk HK4 HF hfin;go_wp2_with fail;go_ret;exact⟨aO HFI.out,on⟩
      have hk:=HK2.out;rw[if_pos hq0]at hk;have hfin:q=r:=by rw[HR.out,if_pos (by rw[hk];exact hq0),hk]
      have HF:=aH hfin;have hqd:(q !=0)=true:=by simpa using hq0
      clear hk HK2 hfin hq0 p2;go_wp2_with fail;go_ret;exact⟨aO HF.out,on.new _⟩
    obtain rfl:i=3:=by omega
    have hk:=HK.out;rw[List.drop_eq_nil_of_le (by simp[HNL.out])]at hk;have hr2:=HR.out;rw[hk]at hr2;have hr3:r=cX (bC ns) (bL cs):=by rw[hr2];simp[cK]
    have HR3:=aH hr3;clear hk hr2 hr3 HK HR HN;have z2:=Z.at_ 2 rfl;have RK:=aH R;have HL3:=HL;clear HL;go_wp2_with fail;clear R z2
    go_loopw [72] (fun s wr=>∃k:Nat,k≤3∧s=.int .i64 k∧aA w wr∧Bx wr z [.slice A 3 c,tip,.slice C 3 d,time]∧WR wr A 3 C 3 ns cs∧Hid (r=cX (bC ns) ((bL cs).drop k))) (fun s _=>3-(intOf s).toNat)
    case atStart=>exact⟨0,by omega,rfl,on,Z,RK.out,HR3⟩
    case round =>
     clear Z on HR3 RK;obtain⟨i,hi,rfl,on,Z,R,HK⟩:=hrel;by_cases hlt:i<3
     · obtain⟨b,off,v,rfl,hb,hv,I,d0,d1,d2,d3,d4,d5,d6,d7,d8,d9,d10,d11⟩:=R.atC hlt;have hvc:(bL cs)[i]?=some v.x:=by simp[bL,hv]
       have hk:=HK.out;rw[FA hvc]at hk;obtain⟨q,hq⟩:∃q,q=aP v.x:=⟨_,rfl⟩
       rw[←hq]at hk;have HK2:=aH hk;have HQ:=aH hq;clear hk hv hvc hq HK;go_upto_region 17 with fail
       refine aW (v1:=[v.x.epoch,v.x.doing,v.x.e.kind,v.x.e.job,v.x.e.every,v.x.e.time,v.x.e.client,v.x.at_,v.x.link,v.x.played,.slice v.A v.n v.c,.slice v.G v.m v.d]) rfl fun w2 ob V=>?_
       replace on:=on.to ob;replace Z:=Z.oe ob;replace R:=R.oe ob;replace I:=I.oe ob;clear ob d0 d1 d2 d3 d4 d5 d6 d7 d8 d9 d10 d11 hb;generalize wr.heap.size=zv at *;obtain⟨v0,v1,v2,v3,v4,v5,v6,v7,v8,v9,v10,v11⟩:=V.p12;go_wp2_with fail;refine Calls.mono (qP v.x.epoch v.x.doing v.x.at_ v.x.link v.x.played v.x.e v.A v.G v.n v.c v.m v.d v.x.b _ I.jobs I.rung) ?_;rintro e w3⟨rfl,ob⟩;rw[show aP ⟨v.x.epoch,v.x.doing,v.x.e,v.x.at_,v.x.link,v.x.played,v.x.b⟩=q from HQ.out.symm];replace on:=on.to ob;replace Z:=Z.oe ob;replace R:=R.oe ob;replace V:=V.oe ob;clear ob v0 v1 v2 v3 v4 v5 v6 v7 v8 v9 v10 v11 I;by_cases hq0:q=0
       · subst hq0;have hk:=HK2.out;rw[if_neg (by simp)]at hk;have hok:=bK.1 HQ.out.symm;have HK3:=aH hk;obtain⟨⟨_,_,_,_,ha0,ha1,hl0,hl1,_,_⟩,_⟩:=hok;clear hk HK2 HQ;go_upto_region 20 with fail
         have z0:=Z.at_ 0 rfl;have v1:=V.at_ 1 rfl;have v2:=V.at_ 2 rfl;have v3:=V.at_ 3 rfl;have v4:=V.at_ 4 rfl;have v5:=V.at_ 5 rfl;have v6:=V.at_ 6 rfl;have v7:=V.at_ 7 rfl;have v8:=V.at_ 8 rfl;by_cases hdo:v.x.doing=2
         · by_cases hli:0<v.x.link
           · obtain⟨l',hl'⟩:∃l':Nat,v.x.link=((l'+1:Nat):Int):=⟨v.x.link.toNat-1,by omega⟩
             obtain⟨a,ha⟩:∃a:Nat,v.x.at_=(a:Int):=⟨v.x.at_.toNat,by omega⟩
             obtain⟨bn,on',u,rfl,hbn,hu,Iu,e0,e1,_⟩:=R.atN (i:=l') (by omega);have hu60:=(HL3.out l' u (by omega) hu).1;have hcu:=Iu.cells;rw[hu60]at e1 hcu;obtain⟨bc,oc,y,hA,hbc,hy,f0,f1,f2,f3,f4⟩:=hcu.atE (i:=a) (by omega)
             have hcell:bF (aV (bC ns) (v.x.link.toNat-1)).u.cells v.x.at_.toNat=y:=by
              rw[hl',ha,show((l'+1:Nat):Int).toNat-1=l' by omega,show((a:Nat):Int).toNat=a by omega,wZ (x:=u.x) (by simp[bC,hu])];exact dH hy
             have HC:=aH hcell;have hk:=HK3.out;rw[HC.out]at hk;have HK4:=aH hk;rw[hdo]at v1;rw[ha]at v7;rw[hl']at v8;rw[hA]at e1;have hl3:(l':Int)<3:=by omega
             have ha6:(a:Int)<60:=by omega
             have hg:decide (((l'+1:Nat):Int) > 0)=true:=by simp<;>omega
             have hw1:IntKind.i64.wrap (l':Int)=(l':Int):=IntWalk.i64_in _ (by omega);have HDO:=aH hdo;have HLI:=aH hli;clear hk HK3 hcell hy hu hcu Iu hu60 e0 hA hdo hl' ha hl0 hl1 ha0 ha1 hli;by_cases hye:y=v.x.e
             · have hd2:(!(y.kind ==v.x.e.kind&&y.job ==v.x.e.job&&y.every ==v.x.e.every&&y.time ==v.x.e.time&&y.client ==v.x.e.client))=false:=by simp[hye]
               have HK5:Hid (r=cX (bC ns) ((bL cs).drop (i+1))):=aH (by rw[HK4.out,if_neg (by simp[hye])]);clear hye HK4;go_quiet (fail);go_wp2_with fail
               go_roundw
               case measure=>simp[intOf]<;>omega
               case rel=>first|exact⟨i+1,by omega,by go_num,on.Zv _,Z.Zv _,R.oe ((aA.Zz _).Zv _),HK5⟩| ((iterate 39 (apply Exists.intro));refine⟨?_,rfl⟩;exact⟨i+1,by omega,by go_num,on.Zv _,Z.Zv _,R.oe ((aA.Zz _).Zv _),HK5⟩)
             have hd2:(!(y.kind ==v.x.e.kind&&y.job ==v.x.e.job&&y.every ==v.x.e.every&&y.time ==v.x.e.time&&y.client ==v.x.e.client))=true:=by
              rw[cD]at hye;simp only[Bool.not_eq_true',Bool.and_eq_false_iff,beq_eq_false_iff_ne];omega
             have hfin:(4:Int)=r:=by rw[HK4.out,if_pos ⟨HDO.out,HLI.out,hye⟩]
             have HF:=aH hfin;clear hye HK4 hfin;go_quiet (fail);go_wp2_with fail;go_ret;exact⟨aO HF.out,on.Zv _⟩
           have hl':v.x.link=0:=by omega
           have HK5:Hid (r=cX (bC ns) ((bL cs).drop (i+1))):=aH (by rw[HK3.out,if_neg (by omega)]);rw[hdo]at v1;rw[hl']at v8;clear HK3 hdo hli hl' hl0 hl1 ha0 ha1;go_quiet (fail);go_wp2_with fail
           go_roundw
           case measure=>simp[intOf]<;>omega
           case rel=>first|exact⟨i+1,by omega,by go_num,on.Zv _,Z.Zv _,R.oe ((aA.Zz _).Zv _),HK5⟩| ((iterate 39 (apply Exists.intro));refine⟨?_,rfl⟩;exact⟨i+1,by omega,by go_num,on.Zv _,Z.Zv _,R.oe ((aA.Zz _).Zv _),HK5⟩)
         have hd:(v.x.doing ==2)=false:=by simpa using hdo
         have HK5:Hid (r=cX (bC ns) ((bL cs).drop (i+1))):=aH (by rw[HK3.out,if_neg (by omega)]);clear HK3 hdo hl0 hl1 ha0 ha1;go_quiet (fail);go_wp2_with fail
         go_roundw
         case measure=>simp[intOf]<;>omega
         case rel=>first|exact⟨i+1,by omega,by go_num,on.Zv _,Z.Zv _,R.oe ((aA.Zz _).Zv _),HK5⟩| ((iterate 39 (apply Exists.intro));refine⟨?_,rfl⟩;exact⟨i+1,by omega,by go_num,on.Zv _,Z.Zv _,R.oe ((aA.Zz _).Zv _),HK5⟩)
       have hk:=HK2.out;rw[if_pos hq0]at hk;have HF:=aH hk.symm;have hqd:(q !=0)=true:=by simpa using hq0
       clear hk HK2 hq0;go_wp2_with fail;go_ret;exact⟨aO HF.out,on⟩
     obtain rfl:i=3:=by omega
     have hk:=HK.out;rw[List.drop_eq_nil_of_le (by simp[HCL.out])]at hk;have HF:Hid ((0:Int)=r):=aH (by rw[hk];rfl);clear hk HK R;go_wp2_with fail;go_ret;exact⟨aO HF.out,on⟩
 have hr4:(4:Int)=r:=by rw[hr];unfold dL;rw[if_pos (by simp[hnl,hcl];omega)]
 have HR:=aH hr4;clear hr hr4 hnl hcl R;by_cases hn:n=3
 · subst hn;have hm:¬ ((m:Int)=3):=by omega
   have hm':((m:Int) !=3)=true:=by simp;omega
   clear h3;go_enter func8,ntmps8;go_wp2_with fail;go_ret;exact⟨aO HR.out,by repeat(first|exact aA.Zz _|refine aA.new ?_ _)⟩
 have hn':¬ ((n:Int)=3):=by omega
 have hn2:((n:Int) !=3)=true:=by simp;omega
 clear h3 hn;go_enter func8,ntmps8;go_wp2_with fail;go_ret;exact⟨aO HR.out,by repeat(first|exact aA.Zz _|refine aA.new ?_ _)⟩
end
end Go.Proofs.YtpfkagghooihfaaGreatDoor
