/- Part 26. -/
import Derived.Test.YtpfkagghooihfaaGreatDoorBa12
import Derived.Test.YtpfkagghooihfaaGreatDoorBa22
namespace Go.Proofs.YtpfkagghooihfaaGreatDoor
set_option linter.unusedSimpArgs false
set_option linter.unusedVariables false
set_option maxHeartbeats 4000000
set_option maxRecDepth 100000
open Go.Proofs.Tryz
section
open Go.RowKit
section
variable {w0 w:World}{L:List (Option xV)}
theorem aF.box (h:aF w0 w L){i:Nat}(hi:i<L.length)(E:Nat)(cs:Array Value)(r:List Value)(hc:cs.toList=r):aF w0 (w.alloc (.cells cs E)) (L.set i (some ⟨.slice (some ⟨w.heap.size,0,none⟩) 1 1,E,r.length,1,[r]⟩)) :=
 h.lit hi E r.length 1 [r] cs (by simp[hc]) rfl (by simp) (by simp[maxLen])
theorem aF.st (h:aF w0 w L){i z E k j:Nat}{r:List Value}(hx:L[i]?=some (some ⟨.slice (some ⟨z,0,none⟩) 1 1,E,k,1,[r]⟩))(hj:j<k)(u:Value):aF w0 (w.setCell ⟨z,j,none⟩ u) (L.set i (some ⟨.slice (some ⟨z,0,none⟩) 1 1,E,k,1,[r.set j u]⟩)):=by
 have ho:=cH.put (h.own i _ hx) (i:=0) (r:=r) rfl hj u;simp only[Nat.zero_mul,Nat.zero_add]at ho;have hz:(Value.slice (some ⟨z,0,none⟩) 1 1).ownBlock=some z:=rfl;refine h.put (List.getElem?_eq_some_iff.1 hx).1 ho (fun j' y e hy=>(h.own j' y hy).kept1 (lD (World.grownBy.refl w _) rfl u) fun b hb hc=>?_) (fun j' y b e hy hb=>h.apart i j' _ y b (fun e'=>e e'.symm) hx hy hb) (h.on.put (h.lt hx hz).1 u);injection hc with hc;subst hc;exact h.apart i j' _ y z (fun e'=>e e'.symm) hx hy hz hb
theorem cH.bx {base E k n c:Nat}{A:Option Addr}{rows:List (List Value)}(h:cH w base E k (.slice A n c) n rows)(hn:0<n):∃b,A=some ⟨b,0,none⟩∧base≤b∧Bx w b rows.flatten:=by
 rcases h.1.2 with ⟨_,h0⟩| ⟨g,cap,cur,hv,hb,hh,_,_,_,h4⟩
 · omega
 injection hv with hA;refine⟨g,hA,hb,fun j v hj=>?_,⟨_,_,hh⟩⟩;rw[←h4,List.getElem?_take]at hj
 split at hj
 · rw[cell_of_row _ _ _ _ _ _ hh,←Array.getElem?_toList];exact hj
 cases hj
theorem aF.zb (h:aF w0 w L){z E k:Nat}{r:List Value}(hx:L[0]?=some (some ⟨.slice (some ⟨z,0,none⟩) 1 1,E,k,1,[r]⟩)):Bx w z r:=by
 obtain⟨b,e,_,B⟩:=(h.own 0 _ hx).bx (by omega);injection e with e;injection e with e;subst e;simpa using B
theorem aF.litN {a b c:Option xV}{z:Nat}(h:aF w0 w [a,b,c])(hz:w.heap.size=z):aF w0 (w.alloc (.cells #[] 55)) [a,some ⟨.slice (some ⟨z,0,none⟩) 0 0,55,5,0,[]⟩,c]:=hz▸h.lit (i:=1) (by simp) _ _ _ _ _ rfl rfl (by simp) (by simp)
theorem aF.litC {a b c:Option xV}{z:Nat}(h:aF w0 w [a,b,c])(hz:w.heap.size=z):aF w0 (w.alloc (.cells #[] 68)) [a,b,some ⟨.slice (some ⟨z,0,none⟩) 0 0,68,12,0,[]⟩]:=hz▸h.lit (i:=2) (by simp) _ _ _ _ _ rfl rfl (by simp) (by simp)
theorem aF.st0 {b c:Option xV}{z E:Nat}{v0 v1 v2 v3:Value}(h:aF w0 w [some ⟨.slice (some ⟨z,0,none⟩) 1 1,E,4,1,[[v0,v1,v2,v3]]⟩,b,c]){u:Value}:aF w0 (w.setCell ⟨z,0,none⟩ u) [some ⟨.slice (some ⟨z,0,none⟩) 1 1,E,4,1,[[u,v1,v2,v3]]⟩,b,c]:=h.st (i:=0) rfl (by omega) u
theorem aF.st2 {b c:Option xV}{z E:Nat}{v0 v1 v2 v3:Value}(h:aF w0 w [some ⟨.slice (some ⟨z,0,none⟩) 1 1,E,4,1,[[v0,v1,v2,v3]]⟩,b,c]){u:Value}:aF w0 (w.setCell ⟨z,2,none⟩ u) [some ⟨.slice (some ⟨z,0,none⟩) 1 1,E,4,1,[[v0,v1,u,v3]]⟩,b,c]:=h.st (i:=0) rfl (by omega) u
theorem kJ (ns:List NV):∀r∈ns.map bW,∀u∈r,u.oneCell'=true:=fun r hr u hu=>by
 obtain⟨v,_,rfl⟩:=List.mem_map.1 hr;simp[bW]at hu;rcases hu with rfl|rfl|rfl|rfl|rfl<;>rfl
theorem kF (cs:List CV):∀r∈cs.map aE,∀u∈r,u.oneCell'=true:=fun r hr u hu=>by
 obtain⟨v,_,rfl⟩:=List.mem_map.1 hr;simp[aE]at hu;rcases hu with rfl|rfl|rfl|rfl|rfl|rfl|rfl|rfl|rfl|rfl|rfl|rfl<;>rfl
end
theorem kY {ops : Array Oper}{o : Oper}{a : Act}{K : Act → World → Prop}{Q : Exit → Act → World → Prop}{F : Prop}{w0 w : World}{e0 e1 : Option xV}{sl x : Operand}{z n c : Nat}{A : Option Addr}{rows : List (List Value)}(hgd : o.guard = none)(ho : o.op = .call { callee := .builtin .append, args := #[sl, x], argTypes := #[22, 22] })
    (hs:a.eval sl=.slice (some ⟨z,0,none⟩) 0 0) (hx:a.eval x=.slice A n c) (hn:n≤3) (R:S w0 5 A n rows) (h1:∀r∈rows,∀u∈r,u.oneCell'=true) (LV:aF w0 w [e0,some ⟨.slice (some ⟨z,0,none⟩) 0 0,55,5,0,[]⟩,e1])
    (h:∀A1 c1 w',aF w0 w' [e0,some ⟨.slice A1 n c1,55,5,n,rows⟩,e1]→K (a.put o.dst (.slice A1 n c1)) w'):if Region.wanted o (yielded ops a.tmps)=true then Oper.wp prog o a w K Q else F:=by
 refine gW LV hgd sl x 22 ho 55 5 88 _ BM underlying22 rfl (by omega) 1 (.slice (some ⟨z,0,none⟩) 0 0) 0 [] hs rfl _ n c rows hx (R.oe LV.on) h1 (by simp[maxLen];omega) (by omega) ?_;intro A1 c1 w' LV';have:=h A1 c1 w' (by rw[Nat.zero_add]at LV';exact LV');rw[Nat.zero_add];exact this
theorem kX {ops : Array Oper}{o : Oper}{a : Act}{K : Act → World → Prop}{Q : Exit → Act → World → Prop}{F : Prop}{w0 w : World}{e0 e1 : Option xV}{sl x : Operand}{z n c : Nat}{A : Option Addr}{rows : List (List Value)}(hgd : o.guard = none)(ho : o.op = .call { callee := .builtin .append, args := #[sl, x], argTypes := #[23, 23] })
    (hs:a.eval sl=.slice (some ⟨z,0,none⟩) 0 0) (hx:a.eval x=.slice A n c) (hn:n≤3) (R:S w0 12 A n rows) (h1:∀r∈rows,∀u∈r,u.oneCell'=true) (LV:aF w0 w [e0,e1,some ⟨.slice (some ⟨z,0,none⟩) 0 0,68,12,0,[]⟩])
    (h:∀A1 c1 w',aF w0 w' [e0,e1,some ⟨.slice A1 n c1,68,12,n,rows⟩]→K (a.put o.dst (.slice A1 n c1)) w'):if Region.wanted o (yielded ops a.tmps)=true then Oper.wp prog o a w K Q else F:=by
 refine gW LV hgd sl x 23 ho 68 12 128 _ AS underlying23 rfl (by omega) 2 (.slice (some ⟨z,0,none⟩) 0 0) 0 [] hs rfl _ n c rows hx (R.oe LV.on) h1 (by simp[maxLen];omega) (by omega) ?_;intro A1 c1 w' LV';have:=h A1 c1 w' (by rw[Nat.zero_add]at LV';exact LV');rw[Nat.zero_add];exact this
end
section
open Go.RowKit
end
section
open Go.RowKit
def NQ (w:World)(A0:Option Addr)(n0 c0:Nat)(u:eM)(err:Int)(e:Ending)(w':World):Prop :=
 ∃A n c,e=.returned (.tuple #[.agg #[u.ep,.slice A n c],err])∧S w' 5 A n (u.cells.map bA)∧aA w w'∧((A=A0∧n=n0)∨aR w.heap.size A)∧(n0≤c0∧c0≤maxLen→n≤c∧c≤maxLen)
theorem qQ (ep : Int)(A : Option Addr)(n c : Nat)(cs : List aL)(k a p : Int)(x : aL)(w : World)(h : S w 5 A n (cs.map bA)) :
    Calls prog 51 #[.agg #[ep,.slice A n c],.agg #[k,a,p,x.kind,x.job,x.every,x.time,x.client]] w (NQ w A n c (bU ⟨ep,cs⟩ ⟨k,a,p,x⟩).1 (bU ⟨ep,cs⟩ ⟨k,a,p,x⟩).2):=by
 have hl:cs.length=n:=by have:=h.len;simpa using this
 obtain⟨q,hq⟩:∃q,q=eJ ep cs:=⟨_,rfl⟩
 obtain⟨q2,hq2⟩:∃q2,q2=bI ⟨k,a,p,x⟩:=⟨_,rfl⟩
 obtain⟨r,hr⟩:∃r,r=bU ⟨ep,cs⟩ ⟨k,a,p,x⟩:=⟨_,rfl⟩
 rw[←hr];unfold bU at hr;simp only[←hq,←hq2]at hr;have HQ:=aH hq;have HQ2:=aH hq2;have hne:=rM;by_cases h0:q=0
 · rw[if_neg (by simp[h0])]at hr;have hg:=dE.1 (h0▸hq.symm);have hn:n=60:=by rw[←hl];exact hg.len
   subst hn;subst h0;have HG:=aH hg;have HR0:=aH hr;clear hr hq hq2 hg;go_enter func51,ntmps51;go_wp2_with fail;have h1:=((h.new (Obj.cells #[ep,.slice A 60 c] 50)).new (Obj.cells #[k,a,p,x.kind,x.job,x.every,x.time,x.client] 90)).new (Obj.cells #[(),Nat] 50);refine Calls.mono (tC ep A 60 c cs _ h1) ?_;rw[←HQ.out];rintro e w1⟨rfl,hb1⟩;have q0a:w1.cell? ⟨w.heap.size,0,none⟩=some (.int .i64 ep):=aB hb1 (by simp[go_sem]);have q1a:w1.cell? ⟨w.heap.size,1,none⟩=some (.slice A 60 c):=aB hb1 (by simp[go_sem]);have r0a:w1.cell? ⟨w.heap.size+1,0,none⟩=some (.int .i64 k):=aB hb1 (by simp[go_sem]);have r1a:w1.cell? ⟨w.heap.size+1,1,none⟩=some (.int .i64 a):=aB hb1 (by simp[go_sem]);have r2a:w1.cell? ⟨w.heap.size+1,2,none⟩=some (.int .i64 p):=aB hb1 (by simp[go_sem]);have r3a:w1.cell? ⟨w.heap.size+1,3,none⟩=some (.int .i64 x.kind):=aB hb1 (by simp[go_sem]);have r4a:w1.cell? ⟨w.heap.size+1,4,none⟩=some (.int .i64 x.job):=aB hb1 (by simp[go_sem]);have r5a:w1.cell? ⟨w.heap.size+1,5,none⟩=some (.int .i64 x.every):=aB hb1 (by simp[go_sem]);have r6a:w1.cell? ⟨w.heap.size+1,6,none⟩=some (.int .i64 x.time):=aB hb1 (by simp[go_sem]);have r7a:w1.cell? ⟨w.heap.size+1,7,none⟩=some (.int .i64 x.client):=aB hb1 (by simp[go_sem]);have p0a:w1.cell? ⟨w.heap.size+1+1,0,none⟩=some (.int .i64 0):=aB hb1 (by simp[go_sem]);have p1a:w1.cell? ⟨w.heap.size+1+1,1,none⟩=some (.slice none 0 0):=aB hb1 (by simp[go_sem])
   have fq0a:w1.frozen? ⟨w.heap.size,0,none⟩=false:=aJ hb1 (v:=.int .i64 ep) (by simp[go_sem]) (by simp[go_sem]);have fq1a:w1.frozen? ⟨w.heap.size,1,none⟩=false:=aJ hb1 (v:=.slice A 60 c) (by simp[go_sem]) (by simp[go_sem]);have fp0a:w1.frozen? ⟨w.heap.size+1+1,0,none⟩=false:=aJ hb1 (v:=.int .i64 0) (by simp[go_sem]) (by simp[go_sem]);have fp1a:w1.frozen? ⟨w.heap.size+1+1,1,none⟩=false:=aJ hb1 (v:=.slice none 0 0) (by simp[go_sem]) (by simp[go_sem]);have h01:aA w w1:=((((Below.refl _ _).alloc (Nat.le_refl _) _).alloc (by simp) _).alloc (by simp;omega) _).trans (hb1.mono (by simp;omega));have h1':=h1.oe hb1;have HOF:Hid (∀z,w.heap.size≤z→bQ 60 z A):=fun z hz=>h.Zx hz
   clear hb1 h h1;go_wp2_with fail;refine Calls.mono (qD k a p x _) ?_;rw[←HQ2.out];rintro e w2⟨rfl,hb2⟩;have q0b:=aB hb2 q0a;have q1b:=aB hb2 q1a;have r0b:=aB hb2 r0a;have r1b:=aB hb2 r1a;have r2b:=aB hb2 r2a;have r3b:=aB hb2 r3a;have r4b:=aB hb2 r4a;have r5b:=aB hb2 r5a;have r6b:=aB hb2 r6a;have r7b:=aB hb2 r7a;have p0b:=aB hb2 p0a;have p1b:=aB hb2 p1a;have fq0b:=aJ hb2 q0a fq0a;have fq1b:=aJ hb2 q1a fq1a;have fp0b:=aJ hb2 p0a fp0a;have fp1b:=aJ hb2 p1a fp1a;clear q0a q1a r0a r1a r2a r3a r4a r5a r6a r7a p0a p1a fq0a fq1a fp0a fp1a;have h2:=h1'.oe hb2;have h02:=aA.to h01 hb2;have hz:w.heap.size+1+1<w2.heap.size:=World.block_lt_of_cell? _ _ p0b;clear hb2 h1' h01;have hr:=HR0.out;by_cases h20:q2=0
   · rw[if_neg (by simp[h20])]at hr;subst h20;by_cases hk:k=2
     · rw[if_pos hk]at hr;by_cases hle:p≤ep
       · rw[if_pos hle]at hr;have HR:=aH hr;have hd:(k ==2)=true:=by simp[hk]
         have hd2:decide (p≤ep)=true:=by simpa using hle
         clear hr HR0 hk;go_wp2_with fail;refine bodyPost_ret (v:=.tuple #[.agg #[(),Nat],(8:Int)]) (by simp[results,results51,go_sem,p0b,p1b]) rfl ?_;rw[HR.out];refine⟨none,0,0,rfl,Sl.nil,?_,.inr (aR.Zp _),fun _=>by simp[maxLen]⟩
         repeat(first|exact h02|refine aA.put ?_ (by first|omega| (simp;done)| (simp;omega)) _)
       rw[if_neg hle]at hr;have HR:=aH hr;have hd:(k ==2)=true:=by simp[hk]
       have hd2:decide (p≤ep)=false:=by simpa using hle
       have HS2:=aH h2;clear hr HR0 hk h2;go_wp2_with fail;refine bodyPost_ret (v:=.tuple #[.agg #[p,.slice A 60 c],()]) (by simp[results,results51,go_sem,p0b,p1b]) rfl ?_;rw[HR.out];refine⟨A,60,c,rfl,?_,?_,.inl ⟨rfl,rfl⟩,id⟩
       · exact(HS2.out.off (p:=⟨w.heap.size+1+1,0,none⟩) (HOF.out _ (by simp only;omega)) (.int .i64 p)).off (p:=⟨w.heap.size+1+1,1,none⟩) (HOF.out _ (by simp only;omega)) (.slice A 60 c)
       repeat(first|exact h02|refine aA.put ?_ (by first|omega| (simp;done)| (simp;omega)) _)
     rw[if_neg hk]at hr;obtain⟨hk1,ha0,ha1,hp0,hx⟩:=kW HQ2.out.symm hk;dsimp only at hk1 ha0 ha1 hp0 hx;obtain⟨j,rfl⟩:∃j:Nat,a=j:=⟨a.toNat,by omega⟩
     have hd:(k ==2)=false:=by simpa using hk
     obtain⟨b,off,y,rfl,hb,hy,d0,d1,d2,d3,d4⟩:=h2.atE (i:=j) (by omega);have hoy:=sD (HG.out.ok y (List.mem_of_getElem? hy));have hj60':(j:Int)<60:=by omega
     rw[Int.toNat_natCast,dH hy]at hr;have HR1:=aH hr;have HY:=aH hy;clear hr HR0 hy hk;go_wp2_with fail;have k0:=aC q1b;have k1:=aC r1b;have k2:=aC d0;have k3:=aC d1;have k4:=aC d2;have k5:=aC d3;have k6:=aC d4;have k7:=mQ hb;have k8:=mQ hz;by_cases hyb:y=fK
     · have hr:=HR1.out;rw[if_neg (by simp[hoy.2.2.2 hyb])]at hr;have HR:=aH hr;have hd2:(!(y.kind ==4&&y.job ==0&&y.every ==0&&y.time ==0&&y.client ==0))=false:=by subst hyb;rfl
       clear hr HR1 hyb hoy;refine aS (by kernel_rfl) (by kernel_rfl) ?_
       repeat(go_big_quiet_step ((first| (go_at_call 73;exact dO (dU _)))))
       refine wpQuiet_nil ?_;intro w3 hb3;have q0c:=aB hb3 q0b;have q1c:=aB hb3 q1b;have r0c:=aB hb3 r0b;have r1c:=aB hb3 r1b;have r2c:=aB hb3 r2b;have r3c:=aB hb3 r3b;have r4c:=aB hb3 r4b;have r5c:=aB hb3 r5b;have r6c:=aB hb3 r6b;have r7c:=aB hb3 r7b;have p0c:=aB hb3 p0b;have p1c:=aB hb3 p1b;have fq0c:=aJ hb3 q0b fq0b;have fq1c:=aJ hb3 q1b fq1b;have fp0c:=aJ hb3 p0b fp0b;have fp1c:=aJ hb3 p1b fp1b;clear q0b q1b r0b r1b r2b r3b r4b r5b r6b r7b p0b p1b fq0b fq1b fp0b fp1b;have h3:=h2.oe hb3;have h03:=aA.to h02 hb3;have hz3:w.heap.size+1+1<w3.heap.size:=World.block_lt_of_cell? _ _ p0c;clear hb3 h2 h02 d0 d1 d2 d3 d4 k0 k1 k2 k3 k4 k5 k6 k7 k8 hb;have hz3a:w.heap.size<w3.heap.size:=by omega
       have hz3b:w.heap.size+1<w3.heap.size:=by omega
       obtain⟨i0,hi0,hzz0,hzz1,hzz2⟩:=info_parts IU;have HI:=aH hi0;have HZ0:=aH hzz0;have HZ1:=aH hzz1;have HZ2:=aH hzz2;have H3:=aH h3;clear hi0 hzz0 hzz1 hzz2 h3;go_wp2_with (at_builtin;refine aQ _ rfl _ _ 48 rfl w3.heap.size 27 i0 _ 5 40 underlying48 HI.out HZ0.out HZ1.out HZ2.out rfl (by decide) _ 0 [] rfl ?c1 w3.heap.size (some ⟨b,off,none⟩) 60 c (cs.map bA) rfl ?c2 (EJ cs) ?c3 ?c4 ?c5 ?_)
       case c1=>exact⟨World.ownsRow_made _ _ _ (Nat.le_refl _) (by simp[maxLen]) (by simp),rfl,by simp⟩
       case c2=>exact H3.out.keep fun p hp=>World.cell?_alloc_lt w3 _ p (by omega)
       case c3=>unfold maxLen;omega
       case c4=>omega
       case c5=>simp
       intro v8 w8 own8 grow8 hv8;obtain⟨A8,c8,rfl,hc1,hc2⟩:=own8.slice;have HCC:Hid (60≤c8∧c8≤maxLen):=aH ⟨by omega,hc2⟩;have nr:∀z,z<w3.heap.size→some z≠Value.ownBlock (.slice (some ⟨w3.heap.size,0,none⟩) 0 0):=fun z hz=>by simp[Value.ownBlock];omega
       have hbA:Below w3.heap.size w3 (w3.alloc (Obj.cells #[] 27)):=(Below.refl _ _).alloc (Nat.le_refl _) _;have q0d:=aD grow8 (aB hbA q0c) (nr _ (by simp only;omega));have q1d:=aD grow8 (aB hbA q1c) (nr _ (by simp only;omega));have r0d:=aD grow8 (aB hbA r0c) (nr _ (by simp only;omega));have r1d:=aD grow8 (aB hbA r1c) (nr _ (by simp only;omega));have r2d:=aD grow8 (aB hbA r2c) (nr _ (by simp only;omega));have r3d:=aD grow8 (aB hbA r3c) (nr _ (by simp only;omega));have r4d:=aD grow8 (aB hbA r4c) (nr _ (by simp only;omega));have r5d:=aD grow8 (aB hbA r5c) (nr _ (by simp only;omega));have r6d:=aD grow8 (aB hbA r6c) (nr _ (by simp only;omega));have r7d:=aD grow8 (aB hbA r7c) (nr _ (by simp only;omega));have p0d:=aD grow8 (aB hbA p0c) (nr _ (by simp only;omega));have p1d:=aD grow8 (aB hbA p1c) (nr _ (by simp only;omega));have fq0d:=bM grow8 (aB hbA q0c) (aJ hbA q0c fq0c) (nr _ (by simp only;omega));have fq1d:=bM grow8 (aB hbA q1c) (aJ hbA q1c fq1c) (nr _ (by simp only;omega));have fp0d:=bM grow8 (aB hbA p0c) (aJ hbA p0c fp0c) (nr _ (by simp only;omega));have fp1d:=bM grow8 (aB hbA p1c) (aJ hbA p1c fp1c) (nr _ (by simp only;omega));have h08:aA w w8:=aT (aA.new h03 (Obj.cells #[] 27)) (by simp;omega) grow8 (fun g hg=>by simp[Value.ownBlock]at hg;omega);have hm8:=own8.m;have hz8:w.heap.size+1+1<w8.heap.size:=World.block_lt_of_cell? _ _ p0d
       clear nr hbA grow8 hv8 own8 h03 HI HZ0 HZ1 HZ2 H3 q0c q1c r0c r1c r2c r3c r4c r5c r6c r7c p0c p1c fq0c fq1c fp0c fp1c;go_upto_region 14 with fail
       have hm9:M (w8.setCell ⟨w.heap.size,1,none⟩ (.slice A8 60 c8)) w3.heap.size 5 A8 60 (cs.map bA):=M.off hm8 (by simp only;omega) _;have h09:aA w (w8.setCell ⟨w.heap.size,1,none⟩ (.slice A8 60 c8)):=h08.put (by simp) _;have q0e:(w8.setCell ⟨w.heap.size,1,none⟩ (.slice A8 60 c8)).cell? ⟨w.heap.size,0,none⟩=some (.int .i64 ep):=by simp[go_sem,q0d,q1d]
       have q1e:(w8.setCell ⟨w.heap.size,1,none⟩ (.slice A8 60 c8)).cell? ⟨w.heap.size,1,none⟩=some (.slice A8 60 c8):=by simp[go_sem,q1d,q1d]
       have r0e:(w8.setCell ⟨w.heap.size,1,none⟩ (.slice A8 60 c8)).cell? ⟨w.heap.size+1,0,none⟩=some (.int .i64 k):=by simp[go_sem,r0d,q1d]
       have r1e:(w8.setCell ⟨w.heap.size,1,none⟩ (.slice A8 60 c8)).cell? ⟨w.heap.size+1,1,none⟩=some (.int .i64 (j:Int)):=by simp[go_sem,r1d,q1d]
       have r2e:(w8.setCell ⟨w.heap.size,1,none⟩ (.slice A8 60 c8)).cell? ⟨w.heap.size+1,2,none⟩=some (.int .i64 p):=by simp[go_sem,r2d,q1d]
       have r3e:(w8.setCell ⟨w.heap.size,1,none⟩ (.slice A8 60 c8)).cell? ⟨w.heap.size+1,3,none⟩=some (.int .i64 x.kind):=by simp[go_sem,r3d,q1d]
       have r4e:(w8.setCell ⟨w.heap.size,1,none⟩ (.slice A8 60 c8)).cell? ⟨w.heap.size+1,4,none⟩=some (.int .i64 x.job):=by simp[go_sem,r4d,q1d]
       have r5e:(w8.setCell ⟨w.heap.size,1,none⟩ (.slice A8 60 c8)).cell? ⟨w.heap.size+1,5,none⟩=some (.int .i64 x.every):=by simp[go_sem,r5d,q1d]
       have r6e:(w8.setCell ⟨w.heap.size,1,none⟩ (.slice A8 60 c8)).cell? ⟨w.heap.size+1,6,none⟩=some (.int .i64 x.time):=by simp[go_sem,r6d,q1d]
       have r7e:(w8.setCell ⟨w.heap.size,1,none⟩ (.slice A8 60 c8)).cell? ⟨w.heap.size+1,7,none⟩=some (.int .i64 x.client):=by simp[go_sem,r7d,q1d]
       have p0e:(w8.setCell ⟨w.heap.size,1,none⟩ (.slice A8 60 c8)).cell? ⟨w.heap.size+1+1,0,none⟩=some (.int .i64 0):=by simp[go_sem,p0d,q1d]
       have p1e:(w8.setCell ⟨w.heap.size,1,none⟩ (.slice A8 60 c8)).cell? ⟨w.heap.size+1+1,1,none⟩=some (.slice none 0 0):=by simp[go_sem,p1d,q1d]
       have fq0e:(w8.setCell ⟨w.heap.size,1,none⟩ (.slice A8 60 c8)).frozen? ⟨w.heap.size,0,none⟩=false:=by simp[fq0d]
       have fq1e:(w8.setCell ⟨w.heap.size,1,none⟩ (.slice A8 60 c8)).frozen? ⟨w.heap.size,1,none⟩=false:=by simp[fq1d]
       have fp0e:(w8.setCell ⟨w.heap.size,1,none⟩ (.slice A8 60 c8)).frozen? ⟨w.heap.size+1+1,0,none⟩=false:=by simp[fp0d]
       have fp1e:(w8.setCell ⟨w.heap.size,1,none⟩ (.slice A8 60 c8)).frozen? ⟨w.heap.size+1+1,1,none⟩=false:=by simp[fp1d]
       have hz9:w.heap.size+1+1<(w8.setCell ⟨w.heap.size,1,none⟩ (.slice A8 60 c8)).heap.size:=by simp;omega
       clear hm8 h08 hz8 q0d q1d r0d r1d r2d r3d r4d r5d r6d r7d p0d p1d fq0d fq1d fp0d fp1d;change Code.wp _ _ _ _ (w8.setCell ⟨w.heap.size,1,none⟩ (.slice A8 60 c8));generalize(w8.setCell ⟨w.heap.size,1,none⟩ (.slice A8 60 c8))=w9 at *;obtain⟨bm,offm,hAm,hbm,hunf⟩:=hm9.2 (by omega);subst hAm;obtain⟨bm',offm',y',hAm',hzm,_,e0,e1,e2,e3,e4⟩:=hm9.sl.atE (i:=j) (by omega);injection hAm' with hAm';injection hAm' with g1 g2 _;subst g1;subst g2;have u0:=hunf.frozen (offm+j*5);have u1:=hunf.frozen (offm+j*5+1);have u2:=hunf.frozen (offm+j*5+2);have u3:=hunf.frozen (offm+j*5+3);have u4:=hunf.frozen (offm+j*5+4);have HMM:=aH hm9;have HUN:=aH hunf;clear hm9 hunf;go_upto_region 15 with fail
       have hm10:M (((((w9.setCell ⟨bm,offm+j*5,none⟩ (.int .i64 x.kind)).setCell ⟨bm,offm+j*5+1,none⟩ (.int .i64 x.job)).setCell ⟨bm,offm+j*5+2,none⟩ (.int .i64 x.every)).setCell ⟨bm,offm+j*5+3,none⟩ (.int .i64 x.time)).setCell ⟨bm,offm+j*5+4,none⟩ (.int .i64 x.client)) w3.heap.size 5 (some ⟨bm,offm,none⟩) 60 ((cs.set j x).map bA):=M.putE HMM.out (by omega) x;have hbw:w.heap.size≤bm:=by omega
       have h10:aA w (((((w9.setCell ⟨bm,offm+j*5,none⟩ (.int .i64 x.kind)).setCell ⟨bm,offm+j*5+1,none⟩ (.int .i64 x.job)).setCell ⟨bm,offm+j*5+2,none⟩ (.int .i64 x.every)).setCell ⟨bm,offm+j*5+3,none⟩ (.int .i64 x.time)).setCell ⟨bm,offm+j*5+4,none⟩ (.int .i64 x.client)):=((((h09.put hbw _).put hbw _).put hbw _).put hbw _).put hbw _;have hne1:∀i o u,∀V:World,(V.setCell ⟨bm,i,none⟩ u).cell? ⟨w.heap.size,o,none⟩=V.cell? ⟨w.heap.size,o,none⟩:=fun i o u V=>World.cell?_setCell_other V _ _ _ (by intro e;injection e with e;omega)
       have hne2:∀i o u,∀V:World,(V.setCell ⟨bm,i,none⟩ u).cell? ⟨w.heap.size+1+1,o,none⟩=V.cell? ⟨w.heap.size+1+1,o,none⟩:=fun i o u V=>World.cell?_setCell_other V _ _ _ (by intro e;injection e with e;omega)
       have q0f:(((((w9.setCell ⟨bm,offm+j*5,none⟩ (.int .i64 x.kind)).setCell ⟨bm,offm+j*5+1,none⟩ (.int .i64 x.job)).setCell ⟨bm,offm+j*5+2,none⟩ (.int .i64 x.every)).setCell ⟨bm,offm+j*5+3,none⟩ (.int .i64 x.time)).setCell ⟨bm,offm+j*5+4,none⟩ (.int .i64 x.client)).cell? ⟨w.heap.size,0,none⟩=some (.int .i64 ep):=by rw[hne1,hne1,hne1,hne1,hne1];exact q0e
       have q1f:(((((w9.setCell ⟨bm,offm+j*5,none⟩ (.int .i64 x.kind)).setCell ⟨bm,offm+j*5+1,none⟩ (.int .i64 x.job)).setCell ⟨bm,offm+j*5+2,none⟩ (.int .i64 x.every)).setCell ⟨bm,offm+j*5+3,none⟩ (.int .i64 x.time)).setCell ⟨bm,offm+j*5+4,none⟩ (.int .i64 x.client)).cell? ⟨w.heap.size,1,none⟩=some (.slice (some ⟨bm,offm,none⟩) 60 c8):=by rw[hne1,hne1,hne1,hne1,hne1];exact q1e
       have p0f:(((((w9.setCell ⟨bm,offm+j*5,none⟩ (.int .i64 x.kind)).setCell ⟨bm,offm+j*5+1,none⟩ (.int .i64 x.job)).setCell ⟨bm,offm+j*5+2,none⟩ (.int .i64 x.every)).setCell ⟨bm,offm+j*5+3,none⟩ (.int .i64 x.time)).setCell ⟨bm,offm+j*5+4,none⟩ (.int .i64 x.client)).cell? ⟨w.heap.size+1+1,0,none⟩=some (.int .i64 0):=by rw[hne2,hne2,hne2,hne2,hne2];exact p0e
       have p1f:(((((w9.setCell ⟨bm,offm+j*5,none⟩ (.int .i64 x.kind)).setCell ⟨bm,offm+j*5+1,none⟩ (.int .i64 x.job)).setCell ⟨bm,offm+j*5+2,none⟩ (.int .i64 x.every)).setCell ⟨bm,offm+j*5+3,none⟩ (.int .i64 x.time)).setCell ⟨bm,offm+j*5+4,none⟩ (.int .i64 x.client)).cell? ⟨w.heap.size+1+1,1,none⟩=some (.slice none 0 0):=by rw[hne2,hne2,hne2,hne2,hne2];exact p1e
       have fp0f:(((((w9.setCell ⟨bm,offm+j*5,none⟩ (.int .i64 x.kind)).setCell ⟨bm,offm+j*5+1,none⟩ (.int .i64 x.job)).setCell ⟨bm,offm+j*5+2,none⟩ (.int .i64 x.every)).setCell ⟨bm,offm+j*5+3,none⟩ (.int .i64 x.time)).setCell ⟨bm,offm+j*5+4,none⟩ (.int .i64 x.client)).frozen? ⟨w.heap.size+1+1,0,none⟩=false:=by simp[fp0e]
       have fp1f:(((((w9.setCell ⟨bm,offm+j*5,none⟩ (.int .i64 x.kind)).setCell ⟨bm,offm+j*5+1,none⟩ (.int .i64 x.job)).setCell ⟨bm,offm+j*5+2,none⟩ (.int .i64 x.every)).setCell ⟨bm,offm+j*5+3,none⟩ (.int .i64 x.time)).setCell ⟨bm,offm+j*5+4,none⟩ (.int .i64 x.client)).frozen? ⟨w.heap.size+1+1,1,none⟩=false:=by simp[fp1e]
       have hz10:w.heap.size+1+1<(((((w9.setCell ⟨bm,offm+j*5,none⟩ (.int .i64 x.kind)).setCell ⟨bm,offm+j*5+1,none⟩ (.int .i64 x.job)).setCell ⟨bm,offm+j*5+2,none⟩ (.int .i64 x.every)).setCell ⟨bm,offm+j*5+3,none⟩ (.int .i64 x.time)).setCell ⟨bm,offm+j*5+4,none⟩ (.int .i64 x.client)).heap.size:=by simp;omega
       clear q0e q1e r0e r1e r2e r3e r4e r5e r6e r7e p0e p1e fq0e fq1e fp0e fp1e h09 HMM hz9 e0 e1 e2 e3 e4 u0 u1 u2 u3 u4 HUN hne1 hne2 hzm;change Code.wp _ _ _ _ (((((w9.setCell ⟨bm,offm+j*5,none⟩ (.int .i64 x.kind)).setCell ⟨bm,offm+j*5+1,none⟩ (.int .i64 x.job)).setCell ⟨bm,offm+j*5+2,none⟩ (.int .i64 x.every)).setCell ⟨bm,offm+j*5+3,none⟩ (.int .i64 x.time)).setCell ⟨bm,offm+j*5+4,none⟩ (.int .i64 x.client));generalize(((((w9.setCell ⟨bm,offm+j*5,none⟩ (.int .i64 x.kind)).setCell ⟨bm,offm+j*5+1,none⟩ (.int .i64 x.job)).setCell ⟨bm,offm+j*5+2,none⟩ (.int .i64 x.every)).setCell ⟨bm,offm+j*5+3,none⟩ (.int .i64 x.time)).setCell ⟨bm,offm+j*5+4,none⟩ (.int .i64 x.client))=w10 at *;go_wp2_with fail;refine bodyPost_ret (v:=.tuple #[.agg #[ep,.slice (some ⟨bm,offm,none⟩) 60 c8],()]) (by simp[results,results51,go_sem,q0f,q1f,p0f,p1f]) rfl ?_;rw[HR.out];refine⟨some ⟨bm,offm,none⟩,60,c8,rfl,?_,?_,.inr (M.fresh hm10 (by omega) (by omega)),fun _=>HCC.out⟩
       · refine M.sl (base:=w3.heap.size) ?_;refine M.off (M.off hm10 ?_ _) ?_ _
         all_goals (first|omega| (simp;done)| (simp;omega))
       repeat(first|exact h10|refine aA.put ?_ (by first|omega| (simp;done)| (simp;omega)) _)
     have hr:=HR1.out;rw[if_pos (fun h=>hyb (hoy.2.2.1 h))]at hr;have HR:=aH hr;have hd2:(!(y.kind ==4&&y.job ==0&&y.every ==0&&y.time ==0&&y.client ==0))=true:=vL hyb;clear hr HR1 hyb hoy;refine aS (by kernel_rfl) (by kernel_rfl) ?_
     repeat(go_big_quiet_step ((first| (go_at_call 73;exact dO (dU _)))))
     refine wpQuiet_nil ?_;intro w3 hb3;have q0c:=aB hb3 q0b;have q1c:=aB hb3 q1b;have r0c:=aB hb3 r0b;have r1c:=aB hb3 r1b;have r2c:=aB hb3 r2b;have r3c:=aB hb3 r3b;have r4c:=aB hb3 r4b;have r5c:=aB hb3 r5b;have r6c:=aB hb3 r6b;have r7c:=aB hb3 r7b;have p0c:=aB hb3 p0b;have p1c:=aB hb3 p1b;have fq0c:=aJ hb3 q0b fq0b;have fq1c:=aJ hb3 q1b fq1b;have fp0c:=aJ hb3 p0b fp0b;have fp1c:=aJ hb3 p1b fp1b;clear q0b q1b r0b r1b r2b r3b r4b r5b r6b r7b p0b p1b fq0b fq1b fp0b fp1b;have h03:=aA.to h02 hb3;have hz3:w.heap.size+1+1<w3.heap.size:=World.block_lt_of_cell? _ _ p0c;clear hb3 h2 h02 d0 d1 d2 d3 d4 k0 k1 k2 k3 k4 k5 k6 k7 k8 hb;go_wp2_with fail;refine bodyPost_ret (v:=.tuple #[.agg #[(),Nat],(6:Int)]) (by simp[results,results51,go_sem,p0c,p1c]) rfl ?_;rw[HR.out];refine⟨none,0,0,rfl,Sl.nil,?_,.inr (aR.Zp _),fun _=>by simp[maxLen]⟩
     repeat(first|exact h03|refine aA.put ?_ (by first|omega| (simp;done)| (simp;omega)) _)
   have hq1:(q2 !=0)=true:=by simpa using h20
   rw[if_pos h20]at hr;have HR:=aH hr;clear hr HR0 h2;go_wp2_with fail;refine bodyPost_ret (v:=.tuple #[.agg #[(),Nat],q2]) (by simp[results,results51,go_sem,p0b,p1b]) rfl ?_;rw[HR.out];refine⟨none,0,0,rfl,Sl.nil,?_,.inr (aR.Zp _),fun _=>by simp[maxLen]⟩
   repeat(first|exact h02|refine aA.put ?_ (by first|omega| (simp;done)| (simp;omega)) _)
 rw[if_pos h0]at hr;have hq0:(q !=0)=true:=by simpa using h0
 have HR:=aH hr;clear hr hq hq2;go_enter func51,ntmps51;go_wp2_with fail;refine Calls.mono (tC ep A n c cs _ (((h.new _).new _).new _)) ?_;rw[←HQ.out];rintro e w1⟨rfl,hb1⟩;have p0a:w1.cell? ⟨w.heap.size+1+1,0,none⟩=some (.int .i64 0):=aB hb1 (by simp[go_sem]);have p1a:w1.cell? ⟨w.heap.size+1+1,1,none⟩=some (.slice none 0 0):=aB hb1 (by simp[go_sem]);have g0:w1.frozen? ⟨w.heap.size+1+1,0,none⟩=false:=aJ hb1 (v:=.int .i64 0) (by simp[go_sem]) (by simp[go_sem]);have g1:w1.frozen? ⟨w.heap.size+1+1,1,none⟩=false:=aJ hb1 (v:=.slice none 0 0) (by simp[go_sem]) (by simp[go_sem]);have h01:aA w w1:=((((Below.refl _ _).alloc (Nat.le_refl _) _).alloc (by simp) _).alloc (by simp;omega) _).trans (hb1.mono (by simp;omega));clear hb1 h;go_wp2_with fail;refine bodyPost_ret (v:=.tuple #[.agg #[(),Nat],q]) (by simp[results,results51,go_sem,p0a,p1a]) rfl ?_;rw[HR.out];refine⟨none,0,0,rfl,Sl.nil,?_,.inr (aR.Zp _),fun _=>by simp[maxLen]⟩
 repeat(first|exact h01|refine aA.put ?_ (by first|omega| (simp;done)| (simp;omega)) _)
end
section
open Go.ChangeShapes Go.WideShapes Go.ChangeAt Go.RowKit Go.Deep Go.Joins
theorem GN:prog.cellsOf 4=1:=by kernel_rfl
theorem wR:prog.cellsOf 55=5:=by kernel_rfl
theorem FF:prog.cellsOf 22=1:=by kernel_rfl
theorem xX:prog.cellsOf 23=1:=by kernel_rfl
theorem DW:prog.cellsOf 25=4:=by kernel_rfl
theorem JN:prog.cellsOf 29=10:=by kernel_rfl
theorem IH {w:World}{cs:List Value}(h:iG w 4 cs):∃b,cs=[.bool b]:=by
 obtain⟨H,enc,spare,held,fuel,y,h⟩:=h;obtain⟨b,e,_⟩:=DataW.trod_bool underlying4 h;exact⟨b,e⟩
theorem FY {w:World}{cs:List Value}(h:iG w 55 cs):∃v:NV,cs=bW v∧v.In w:=by
 obtain⟨hl,hf⟩:=dQ underlying55 h;rw[wR]at hl
 match cs,hl with
 | [c0,c1,c2,c3,c4],_ =>
   simp only[sZ,wM,wL,GN]at hf;obtain⟨h0,h1,h2,_⟩:=hf;obtain⟨u,e0,_,hs,hnc,hcm⟩:=GA h0;obtain⟨d,e1,K⟩:=GS h1;obtain⟨b,e2⟩:=IH h2;simp[cP,OX]at e0 e1 e2;obtain⟨rfl,rfl⟩:=e0;obtain⟨rfl,rfl⟩:=e1;subst e2;exact⟨⟨⟨⟨u.ep,u.cells⟩,d.x,b⟩,u.A,u.n,u.c,d.A,d.n,d.c,d.A',d.m,d.d⟩,rfl,hs,K,hnc,hcm⟩
theorem MA {w:World}{cs:List Value}(h:iG w 68 cs):∃v:CV,cs=aE v∧v.In w∧v.c≤maxLen∧v.d≤maxLen:=by
 obtain⟨c,A,n,k,A',m,d,rfl,hnk,hk,hmd,hd,_,_,_,_,_,_,s,t⟩:=AO h;exact⟨⟨c,A,n,k,A',m,d⟩,rfl,⟨s,t,hnk,hmd⟩,hk,hd⟩
theorem uC {w : World}{cs : List Value}(h : iG w 25 cs) : ∃ (A : Option Addr)(n c : Nat)(tip : Int)(C : Option Addr)(m d : Nat)(time : Int)(ns : List NV)(vs : List CV),
    cs=[.slice A n c,.int .i64 tip,.slice C m d,.int .i64 time]∧n≤c∧c≤maxLen∧m≤d∧d≤maxLen∧WR w A n C m ns vs∧∀v∈vs,v.c≤maxLen∧v.d≤maxLen:=by
 obtain⟨hl,hf⟩:=dQ underlying25 h;rw[DW]at hl
 match cs,hl with
 | [c0,c1,c2,c3],_ =>
   simp only[sZ,FF,jQ,xX]at hf;obtain⟨h0,h1,h2,h3,_⟩:=hf;obtain⟨A,n,c,ns,e0,hnc,hcm,hN,hs⟩:=jP bW (fun v=>v.In w) underlying22 wR (by omega) (fun _=>rfl) (fun _ _ h=>FY h) h0;obtain⟨tip,e1,_⟩:=cB h1;obtain⟨C,m,d,vs,e2,hmd,hdm,hC,ht⟩:=jP aE (fun v=>v.In w∧v.c≤maxLen∧v.d≤maxLen) underlying23 sE (by omega) (fun _=>rfl) (fun _ _ h=>MA h) h2;obtain⟨time,e3,_⟩:=cB h3;simp at e0 e1 e2 e3;subst e0 e1 e2 e3;exact⟨A,n,c,tip,C,m,d,time,ns,vs,rfl,hnc,hcm,hmd,hdm,⟨hs,ht,hN,fun v hv=>(hC v hv).1⟩,fun v hv=>(hC v hv).2⟩
def dY (x:qY):List Value:=[x.kind,x.client,x.n,x.job,x.epoch,x.e.kind,x.e.job,x.e.every,x.e.time,x.e.client]
theorem KI {w:World}{cs:List Value}(h:iG w 29 cs):∃x:qY,cs=dY x∧True:=by
 obtain⟨hl,hf⟩:=dQ underlying29 h;rw[JN]at hl
 match cs,hl with
 | [c0,c1,c2,c3,c4,c5,c6,c7,c8,c9],_ =>
   simp only[sZ,jQ,lS]at hf;obtain⟨h0,h1,h2,h3,h4,h5,_⟩:=hf;obtain⟨z0,e0,_⟩:=cB h0;obtain⟨z1,e1,_⟩:=cB h1;obtain⟨z2,e2,_⟩:=cB h2;obtain⟨z3,e3,_⟩:=cB h3;obtain⟨z4,e4,_⟩:=cB h4;obtain⟨y,e5,_⟩:=pD h5;simp[bA]at e0 e1 e2 e3 e4 e5;obtain⟨rfl,rfl,rfl,rfl,rfl⟩:=e5;subst e0 e1 e2 e3 e4;exact⟨⟨z0,z1,z2,z3,z4,y⟩,rfl,trivial⟩
theorem QW {w:World}{cs:List Value}(h:iG w 38 cs):∃ (A:Option Addr)(n c:Nat)(l:List qY),cs=[.slice A n c]∧n≤c∧c≤maxLen∧S w 10 A n (l.map dY):=by
 obtain⟨A,n,c,l,e,hnc,hcm,_,hs⟩:=jP dY (fun _=>True) underlying38 JN (by omega) (fun _=>rfl) (fun _ _ h=>KI h) h;exact⟨A,n,c,l,e,hnc,hcm,hs⟩
end
section
open Go.RowKit
def eK (w:World)(e:Nat):Prop:=∃A n c t C m d s T fr,w.heap[e]?=some (.cells #[.slice A n c,.int .i64 t,.slice C m d,.int .i64 s] T fr)
section
variable {w w':World}{e k n:Nat}{A:Option Addr}{rows:List (List Value)}
theorem eK.oe (h:eK w e)(b:aA w w'):eK w' e:=by
 obtain⟨A,n,c,t,C,m,d,s,T,fr,h⟩:=h
 exact⟨A,n,c,t,C,m,d,s,T,fr,(b.block e (Array.getElem?_eq_some_iff.1 h).1).trans h⟩
theorem eK.Zt (w:World)(A C:Option Addr)(n c m d:Nat)(t s:Int)(T:TypeId):eK (w.alloc (.cells #[.slice A n c,.int .i64 t,.slice C m d,.int .i64 s] T)) w.heap.size :=
 ⟨A,n,c,t,C,m,d,s,T,_,heap_alloc_new w _⟩
theorem eK.turn {z:Nat}(h:eK w e)(t:aK w w' z)(hne:e≠z):eK w' e:=by
 obtain⟨A,n,c,t0,C,m,d,s,T,fr,h⟩:=h
 exact⟨A,n,c,t0,C,m,d,s,T,fr,(t.block e (Array.getElem?_eq_some_iff.1 h).1 (by intro e';injection e' with e';exact hne e')).trans h⟩
theorem eK.gr {row:Option Nat}(h:eK w e)(t:w.grownBy w' row)(hne:some e≠row):eK w' e:=by
 obtain⟨A,n,c,t0,C,m,d,s,T,fr,h⟩:=h
 exact⟨A,n,c,t0,C,m,d,s,T,fr,(t.block e (Array.getElem?_eq_some_iff.1 h).1 hne).trans h⟩
theorem NV.In.gr {row:Option Nat}{v:NV}(h:v.In w)(b:w.grownBy w' row)(f:∀g,row=some g→v.off g):v.In w' :=
 ⟨h.cells.grown b (fun g e=>(f g e).a),h.disk.grown b (fun g e=>(f g e).f) (fun g e=>(f g e).g),h.le,h.max⟩
theorem CV.In.gr {row:Option Nat}{v:CV}(h:v.In w)(b:w.grownBy w' row)(f:∀g,row=some g→v.off g):v.In w' :=
 ⟨h.jobs.grown b (fun g e=>(f g e).a),h.rung.grown b (fun g e=>(f g e).g),h.le,h.le'⟩
structure JW (b nb cb:Nat)(ns:List NV)(cs:List CV):Prop where
 n:nb≠b
 c:cb≠b
 ni:∀v∈ns,v.off b
 ci:∀v∈cs,v.off b
theorem WR.gr {row:Option Nat}{nb cb:Nat}{ns:List NV}{cs:List CV}(R:WR w (some ⟨nb,0,none⟩) 3 (some ⟨cb,0,none⟩) 3 ns cs)(t:w.grownBy w' row)(h:∀b,row=some b→JW b nb cb ns cs):WR w' (some ⟨nb,0,none⟩) 3 (some ⟨cb,0,none⟩) 3 ns cs :=
 ⟨R.nr.grown t (fun g e=>by intro _ a ha;injection ha with ha;subst ha;exact(h g e).n),R.cr.grown t (fun g e=>by intro _ a ha;injection ha with ha;subst ha;exact(h g e).c),fun v hv=>(R.ni v hv).gr t (fun g e=>(h g e).ni v hv),fun v hv=>(R.ci v hv).gr t (fun g e=>(h g e).ci v hv)⟩
theorem WR.far {nb cb:Nat}{ns:List NV}{cs:List CV}(R:WR w (some ⟨nb,0,none⟩) 3 (some ⟨cb,0,none⟩) 3 ns cs){b:Nat}(hb:w.heap.size≤b):JW b nb cb ns cs :=
 ⟨fun e=>R.nr.Zx hb (by omega) _ rfl e,fun e=>R.cr.Zx hb (by omega) _ rfl e,fun v hv=>(R.ni v hv).Zn hb,fun v hv=>(R.ci v hv).Zn hb⟩
theorem eK.store (h:eK w e)(A C:Option Addr)(n c m d:Nat)(t s:Int):eK ((((w.setCell ⟨e,0,none⟩ (.slice A n c)).setCell ⟨e,1,none⟩ (.int .i64 t)).setCell ⟨e,2,none⟩ (.slice C m d)).setCell ⟨e,3,none⟩ (.int .i64 s)) e:=by
 obtain⟨A',n',c',t',C',m',d',s',T,fr,h⟩:=h
 refine⟨A,n,c,t,C,m,d,s,T,fr,?_⟩
 simp[World.setCell,Array.getElem?_modify,h]
theorem eK.two (h:eK w e){o:Nat}{a b:Int}(h1:w.cell? ⟨e,o,none⟩=some (.int .i64 a))(h2:w.cell? ⟨e,o+1,none⟩=some (.int .i64 b)):False:=by
 obtain⟨A,n,c,t,C,m,d,s,T,fr,h⟩:=h
 rw[cell_of_row w e _ _ _ _ h]at h1 h2
 match o with
 |0=>simp at h1
 |1=>simp at h2
 |2=>simp at h1
 |3=>simp at h2
 |o+4=>simp at h1
theorem eK.byte (h:eK w e){o:Nat}{a:Int}(h1:w.cell? ⟨e,o,none⟩=some (.int .u8 a)):False:=by
 obtain⟨A,n,c,t,C,m,d,s,T,fr,h⟩:=h
 rw[cell_of_row w e _ _ _ _ h]at h1
 match o with
 |0=>simp at h1
 |1=>simp at h1
 |2=>simp at h1
 |3=>simp at h1
 |o+4=>simp at h1
theorem eK.off2 (h:eK w e)(hs:S w k A n rows)(hr:∀r∈rows,∃a b,r[0]?=some (.int .i64 a)∧r[1]?=some (.int .i64 b)):bQ n e A:=fun hn a ea hb=>by
 obtain⟨b,off,e',_,hc⟩:=hs.2.2 hn
 rw[ea]at e';injection e' with e';subst e'
 simp only at hb;subst hb
 have h0:0<rows.length:=by rw[hs.1];exact hn
 obtain⟨x,y,h1,h2⟩:=hr rows[0] (List.getElem_mem h0)
 have g1:=hc 0 0 _ _ (List.getElem?_eq_getElem h0) h1
 have g2:=hc 0 1 _ _ (List.getElem?_eq_getElem h0) h2
 simp only[Nat.zero_mul,Nat.add_zero]at g1 g2
 exact h.two g1 g2
theorem eK.Zr (h:eK w e){l:List UInt8}(hs:S w 1 A n (l.map cA)):bQ n e A:=fun hn a ea hb=>by
 obtain⟨b,off,e',_,hc⟩:=hs.2.2 hn
 rw[ea]at e';injection e' with e';subst e'
 simp only at hb;subst hb
 have hl:l.length=n:=by have:=hs.1;simpa using this
 have h0:0<l.length:=by omega
 have g1:=hc 0 0 (cA l[0]) _ (by rw[List.getElem?_map,List.getElem?_eq_getElem h0];rfl) rfl
 exact h.byte g1
theorem eK.node (h:eK w e){v:NV}(I:v.In w):v.off e :=
 ⟨h.off2 I.cells (fun r hr=>by obtain⟨x,_,rfl⟩:=List.mem_map.1 hr;exact⟨_,_,rfl,rfl⟩),h.Zr I.disk.safe,h.Zr I.disk.wait⟩
theorem eK.wr (h:eK w e){nb cb:Nat}{ns:List NV}{cs:List CV}(R:WR w (some ⟨nb,0,none⟩) 3 (some ⟨cb,0,none⟩) 3 ns cs)(t:aK w w' e)(hn:nb≠e)(hc:cb≠e)(hN:∀v∈ns,v.off e)(hC:∀v∈cs,v.off e):WR w' (some ⟨nb,0,none⟩) 3 (some ⟨cb,0,none⟩) 3 ns cs :=
 ⟨R.nr.grown t (fun g e'=>by injection e' with e';subst e';intro _ a ha;injection ha with ha;subst ha;exact hn),R.cr.grown t (fun g e'=>by injection e' with e';subst e';intro _ a ha;injection ha with ha;subst ha;exact hc),fun v hv=>(R.ni v hv).grown t (hN v hv),fun v hv=>(R.ci v hv).grown t (hC v hv)⟩
theorem eK.client (h:eK w e){v:CV}(I:v.In w):v.off e :=
 ⟨h.off2 I.jobs (fun r hr=>by obtain⟨x,_,rfl⟩:=List.mem_map.1 hr;exact⟨_,_,rfl,rfl⟩),h.off2 I.rung (fun r hr=>by obtain⟨x,_,rfl⟩:=List.mem_map.1 hr;exact⟨_,_,rfl,rfl⟩)⟩
end
end
section
open Go.RowKit
theorem QV (A A' : Option Addr)(n m c d B : Nat)(l l' : List Int)(w : World)(h : Sl w B 1 A n (l.map iW))(h' : Sl w B 1 A' m (l'.map iW))(hn : n ≤ 9223372036854775807) :
    Calls prog 15 #[.slice A n c,.slice A' m d] w fun e w'=>e=.returned (.bool (decide (l=l')))∧∃q,w'=w.drewN q:=by
 by_cases hnm:n=m
 · subst hnm;go_enter func15,ntmps15;go_wp2
   go_loopg [13] n (fun g s13 wr=>∃kk q:Nat,kk≤n∧n-kk≤g∧s13=.int .i64 kk∧wr=w.drewN q∧Hid (∀j,j<kk→l[j]?=l'[j]?))
   case atStart=>exact⟨0,0,Nat.zero_le _,by omega,rfl,rfl,fun j hj=>absurd hj (Nat.not_lt_zero _)⟩
   case round =>
    obtain⟨kk,q,hkk,hg,rfl,rfl,H⟩:=hrel;by_cases hlt:kk<n
    · obtain⟨b,off,x,rfl,hb,hx,c0⟩:=h.atI hlt;obtain⟨b',off',x',rfl,hb',hx',d0⟩:=h'.atI hlt;have HX:=aH hx;have HX':=aH hx';clear hx hx';clear h h';go_wp2_with fail;go_quiet (fail);go_wp2
      · go_ret;refine⟨?_,q+nq,by simp⟩
        have hd:l≠l':=by
         rintro rfl;have:=HX.out.symm.trans HX'.out;simp at this;subst this;simp_all
        simp[hd]
      go_roundg (n-(kk+1))
      case measure=>omega
      case rel =>
       refine⟨kk+1,q+nq,by omega,by omega,by go_num,by simp,?_⟩;intro j hj;by_cases e:j=kk
       · subst e;rw[HX.out,HX'.out];congr 1;simp_all
       exact H.out j (by omega)
    have:kk=n:=by omega
    subst this;have hl:=h.len;have hl':=h'.len;simp at hl hl';have he:l=l':=jX (by omega) (fun j hj=>H.out j (by omega));clear h h' hl hl';go_wp2;go_ret;refine⟨by simp[he],q,rfl⟩
 have hnm':¬ (n:Int)=(m:Int):=by omega
 have hd:l≠l':=by
  rintro rfl;exact hnm (h.len.symm.trans h'.len)
 clear h h';go_enter func15,ntmps15;go_wp2;go_ret;exact⟨by simp[hd],0,rfl⟩
theorem tB (A : Option Addr)(n c B : Nat)(l : List Int)(g : FuncId)(lb : Array Value)(p : Int → Bool)(w : World)(h : Sl w B 1 A n (l.map iW))(hB : B ≤ w.heap.size)(hn : n ≤ 9223372036854775807)
    (eg:∀args w,(callFunc g args).run prog w=.ok (.enter g args) w)
    (hp:∀ (x:Int)(w':World),Below w.heap.size w w'→Calls prog g (#[.int .i64 x] ++lb) w' fun e w''=>e=.returned (.bool (p x))∧Below w'.heap.size w' w'') :
    Calls prog 77 #[.slice A n c,.func (.func g) #[] lb] w fun e w'=>e=.returned (.int .i64 (lM p l))∧Below w.heap.size w w':=by
 have hp':=aH hp;clear hp;go_enter func77,ntmps77;go_wp2
 go_loopw [8] (fun s wr=>∃i:Nat,i≤n∧s=.int .i64 i∧Below w.heap.size w wr∧Hid (∀j y,j<i→l[j]?=some y→p y=false)) (fun s _=>n-(intOf s).toNat)
 case atStart=>exact⟨0,Nat.zero_le _,rfl,Below.refl _ _,fun j y hj=>absurd hj (Nat.not_lt_zero _)⟩
 case round =>
  obtain⟨i,hi,rfl,hbel,H⟩:=hrel;by_cases hlt:i<n
  · obtain⟨b,off,x,rfl,hb,hx,c0⟩:=(h.below (hbel.mono hB)).atI hlt;have HX:=aH hx;have hl:=h.len;simp at hl;have HL:=aH hl;clear h hx hl
    cases hpx:p x with
    |true =>
      have HPX:=aH hpx;clear hpx;go_wp2_with fail;refine Calls.mono (hp'.out x _ hbel) ?_;rintro e w'⟨rfl,hw'⟩;rw[HPX.out];go_wp2;go_ret;refine⟨aO ?_,hbel.trans (hw'.mono hbel.size)⟩;exact(vK HX.out HPX.out H.out).symm
    |false =>
      have HPX:=aH hpx;clear hpx;go_wp2_with fail;refine Calls.mono (hp'.out x _ hbel) ?_;rintro e w'⟨rfl,hw'⟩;rw[HPX.out];go_wp2
      go_roundw
      case measure=>simp[intOf];omega
      case rel =>
       refine⟨i+1,by omega,by go_num,hbel.trans (hw'.mono hbel.size),fun j y hj hy=>?_⟩;by_cases e:j=i
       · subst e;have:=HX.out.symm.trans hy;injection this with this;subst this;exact HPX.out
       exact H.out j y (by omega) hy
  obtain rfl:i=n:=by omega
  have hl:=h.len;simp at hl;have hfin:lM p l=-1:=pS (fun j y hy=>H.out j y (by have:=(List.getElem?_eq_some_iff.1 hy).1;omega) hy);have HF:=aH hfin;clear h hl hfin;go_wp2;go_ret;exact⟨aO HF.out.symm,hbel⟩
theorem qJ (A : Option Addr)(n c : Nat)(l : List Int)(g : FuncId)(p : Int → Bool)(w : World)(h : S w 1 A n (l.map iW))(hn : n ≤ 9223372036854775807)
    (eg:∀args w,(callFunc g args).run prog w=.ok (.enter g args) w)
    (hp:∀ (x:Int)(w':World),aA w w'→Calls prog g #[x] w' fun e w''=>e=.returned (.bool (p x))∧aA w' w'') :
    Calls prog 29 #[.slice A n c,.func (.func g) #[] #[]] w fun e w'=>e=.returned (.bool (decide (0≤lM p l)))∧aA w w':=by
 have hp':=aH hp;clear hp;obtain⟨q,hq⟩:∃q,q=lM p l:=⟨_,rfl⟩
 rw[←hq];have HQ:=aH hq;clear hq;go_enter func29,ntmps29;go_wp2_with fail;refine Calls.mono (tB A n c _ l g #[] p _ h (Nat.le_refl _) hn eg (fun x w' hw'=>hp'.out x w' hw')) ?_;rw[←HQ.out];rintro e w'⟨rfl,b⟩;go_wp2_with fail;go_ret;exact⟨by first|rfl|simp,b⟩
theorem AW (A : Option Addr)(n c : Nat)(l : List Int)(x0 : Int)(w : World)(h : S w 1 A n (l.map iW))(hn : n ≤ 1000000000000) :
    Calls prog 28 #[.slice A n c,x0] w fun e w'=>e=.returned (.int .i64 (lM (fun y=>decide (x0=y)) l))∧aA w w':=by
 go_enter func28,ntmps28;go_wp2_with fail
 go_loopg [8] n (fun g s8 wr=>∃i:Nat,i≤n∧n-i≤g∧s8=.int .i64 i∧aA w wr∧Hid (∀j y,j<i→l[j]?=some y→decide (x0=y)=false))
 case atStart=>exact⟨0,Nat.zero_le _,Nat.le_refl _,rfl,aA.Zz _,fun j y hj=>absurd hj (Nat.not_lt_zero _)⟩
 case round =>
  obtain⟨i,hi,hg,rfl,on,H⟩:=hrel;by_cases hlt:i<n
  · obtain⟨b,off,x,rfl,hb,hx,c0⟩:=(h.oe on).atI hlt;have HX:=aH hx;clear hx;by_cases hpx:x0=x
    · have hd:(x0 ==x)=true:=by simpa using hpx
      have HPX:=aH hpx;clear hpx;go_wp2_with fail;go_ret;exact⟨aO (vK HX.out (by simpa using HPX.out) H.out).symm,on⟩
    have hd:(x0 ==x)=false:=by simpa using hpx
    have HPX:=aH hpx;clear hpx;go_wp2_with fail;go_roundg (n-(i+1))
    case measure=>omega
    case rel =>
     refine⟨i+1,by omega,Nat.le_refl _,by go_num,on,fun j y hj hy=>?_⟩;by_cases e:j=i
     · subst e;have:=HX.out.symm.trans hy;injection this with this;subst this;simpa using HPX.out
     exact H.out j y (by omega) hy
  obtain rfl:i=n:=by omega
  have hl:l.length=i:=by have:=h.len;simpa using this
  have hfin:lM (fun y=>decide (x0=y)) l=-1:=pS (fun j y hy=>H.out j y (by have:=(List.getElem?_eq_some_iff.1 hy).1;omega) hy);have HF:=aH hfin;clear hl hfin;go_wp2_with fail;go_ret;exact⟨aO HF.out.symm,on⟩
theorem lI (k c:Int)(w:World):Calls prog 25 #[k,c] w fun e w'=>e=.returned (.agg #[k,c,(),(),(),(),(),(),(),()])∧aA w w':=by
 go_enter func25,ntmps25;go_wp2_with fail;refine bodyPost_ret (v:=.agg #[k,c,(),(),(),(),(),(),(),()]) (by simp[results,results25,go_sem]) rfl ?_;exact⟨rfl,by repeat(first|exact Below.refl _ _|refine aA.put ?_ (by simp) _|refine aA.new ?_ _)⟩
theorem EE (x:Int)(w:World):Calls prog 30 #[x] w fun e w'=>e=.returned (.bool (decide (x≠0)&&decide (x≠5)))∧aA w w':=by
 by_cases h0:x=0
 · subst h0;go_enter func30,ntmps30;go_wp2_with fail;go_ret;exact⟨by simp,aA.Zz _⟩
 by_cases h5:x=5
 · subst h5;go_enter func30,ntmps30;go_wp2_with fail;go_ret;exact⟨by simp,aA.Zz _⟩
 have hd:(x !=0)=true:=by simpa using h0
 have hd5:(x !=5)=true:=by simpa using h5
 go_enter func30,ntmps30;go_wp2_with fail;go_ret;exact⟨by simp[h0,h5],aA.Zz _⟩
end
end Go.Proofs.YtpfkagghooihfaaGreatDoor
