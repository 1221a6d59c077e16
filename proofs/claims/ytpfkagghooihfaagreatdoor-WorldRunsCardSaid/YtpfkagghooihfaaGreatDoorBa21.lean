/- Part 21. -/
import Derived.Test.YtpfkagghooihfaaGreatDoorBa17
import Derived.Test.YtpfkagghooihfaaGreatDoorBa02
namespace Go.Proofs.YtpfkagghooihfaaGreatDoor
set_option linter.unusedSimpArgs false
set_option linter.unusedVariables false
set_option maxHeartbeats 8000000
set_option maxRecDepth 100000
open Go.Proofs.Tryz
open Go.RowKit
section
theorem PY (v0 v1 v2 v3 v4 v5 p : Value)(k : Nat)(hk : k < 6)(h : (#[v0, v1, v2, v3, v4, v5] : Array Value)[k]? = some p)(w : World) :
    (Instr.index 167 (.agg #[v0,v1,v2,v3,v4,v5]) (.int .i64 (k:Int))).run prog w=.ok p w:=by
 have q0:(Instr.index 167 (.agg #[v0,v1,v2,v3,v4,v5]) (.int .i64 0)).run prog w=.ok v0 w:=by kernel_rfl
 have q1:(Instr.index 167 (.agg #[v0,v1,v2,v3,v4,v5]) (.int .i64 1)).run prog w=.ok v1 w:=by kernel_rfl
 have q2:(Instr.index 167 (.agg #[v0,v1,v2,v3,v4,v5]) (.int .i64 2)).run prog w=.ok v2 w:=by kernel_rfl
 have q3:(Instr.index 167 (.agg #[v0,v1,v2,v3,v4,v5]) (.int .i64 3)).run prog w=.ok v3 w:=by kernel_rfl
 have q4:(Instr.index 167 (.agg #[v0,v1,v2,v3,v4,v5]) (.int .i64 4)).run prog w=.ok v4 w:=by kernel_rfl
 have q5:(Instr.index 167 (.agg #[v0,v1,v2,v3,v4,v5]) (.int .i64 5)).run prog w=.ok v5 w:=by kernel_rfl
 match k,hk,h with
 |0,_,h=>exact(Option.some.inj h)▸q0
 |1,_,h=>exact(Option.some.inj h)▸q1
 |2,_,h=>exact(Option.some.inj h)▸q2
 |3,_,h=>exact(Option.some.inj h)▸q3
 |4,_,h=>exact(Option.some.inj h)▸q4
 |5,_,h=>exact(Option.some.inj h)▸q5
theorem yJ (A A' : Option Addr)(n c m d : Nat)(b : cW)(x : aL)(w : World)(h : S w 3 A n (b.jobs.map bX))(h' : S w 3 A' m (b.rung.map dN))(hg : nZ b)(hx : aG x = 0) :
    Calls prog 93 #[.agg #[.slice A n c,.slice A' m d],.agg #[x.kind,x.job,x.every,x.time,x.client]] w (mJ w (vR b x) 0):=by
 have HG:=aH hg;have HX:=aH hx;have hl:b.jobs.length=n:=by have:=h.len;simpa using this
 have hl6:n≤6:=by rw[←hl];exact hg.nj
 have hlm:b.rung.length=m:=by have:=h'.len;simpa using this
 have hm60:m≤60:=by rw[←hlm];exact hg.nr
 have oA:∀z,w.heap.size≤z→bQ n z A:=fun z hz=>h.Zx hz
 have oB:∀z,w.heap.size≤z→bQ m z A':=fun z hz=>h'.Zx hz
 have OA:=aH oA;have OB:=aH oB;clear oA oB;have HL:=aH hl;have HLM:=aH hlm;obtain⟨hj0,hj6⟩:=wO hx;clear hg hx hl hlm;go_enter func93,ntmps93;go_wp2_with fail;refine Calls.mono (jY A A' n c m d b.jobs b.rung _ (((h.new _).new _).new _) (((h'.new _).new _).new _)) ?_;rw[show cF ⟨b.jobs,b.rung⟩=0 from fE.2 HG.out];rintro e w1⟨rfl,hb1⟩;have q0:w1.cell? ⟨w.heap.size,0,none⟩=some (.slice A n c):=aB hb1 (by simp[go_sem]);have q1:w1.cell? ⟨w.heap.size,1,none⟩=some (.slice A' m d):=aB hb1 (by simp[go_sem]);have e0:w1.cell? ⟨w.heap.size+1,0,none⟩=some (.int .i64 x.kind):=aB hb1 (by simp[go_sem]);have e1:w1.cell? ⟨w.heap.size+1,1,none⟩=some (.int .i64 x.job):=aB hb1 (by simp[go_sem]);have e2:w1.cell? ⟨w.heap.size+1,2,none⟩=some (.int .i64 x.every):=aB hb1 (by simp[go_sem]);have e3:w1.cell? ⟨w.heap.size+1,3,none⟩=some (.int .i64 x.time):=aB hb1 (by simp[go_sem]);have e4:w1.cell? ⟨w.heap.size+1,4,none⟩=some (.int .i64 x.client):=aB hb1 (by simp[go_sem]);have r0:w1.cell? ⟨w.heap.size+2,0,none⟩=some (.slice none 0 0):=aB hb1 (by simp[go_sem]);have r1:w1.cell? ⟨w.heap.size+2,1,none⟩=some (.slice none 0 0):=aB hb1 (by simp[go_sem]);have fr0:w1.frozen? ⟨w.heap.size+2,0,none⟩=false:=aJ hb1 (v:=.slice none 0 0) (by simp[go_sem]) (by simp[go_sem]);have fr1:w1.frozen? ⟨w.heap.size+2,1,none⟩=false:=aJ hb1 (v:=.slice none 0 0) (by simp[go_sem]) (by simp[go_sem]);have hon:aA w w1:=((((Below.refl _ _).alloc (Nat.le_refl _) _).alloc (by simp) _).alloc (by simp;omega) _).trans (hb1.mono (by simp;omega))
 have g:=h.oe hon;have g':=h'.oe hon;clear hb1 h h';go_wp2_with fail;refine Calls.mono (eT x.kind x.job x.every x.time x.client _) ?_;rw[show aG ⟨x.kind,x.job,x.every,x.time,x.client⟩=0 from HX.out];rintro e w2⟨rfl,hb⟩;replace fr0:=aJ hb r0 fr0;replace fr1:=aJ hb r1 fr1;replace q0:=aB hb q0;replace q1:=aB hb q1;replace e0:=aB hb e0;replace e1:=aB hb e1;replace e2:=aB hb e2;replace e3:=aB hb e3;replace e4:=aB hb e4;replace r0:=aB hb r0;replace r1:=aB hb r1;replace hon:=aA.to hon hb;replace g:=S.oe g hb;replace g':=S.oe g' hb;clear hb;go_upto_region 8 with fail
 have hTw:w.heap.size+2<w2.heap.size:=World.block_lt_of_cell? _ _ r0;have hb:aA w2 (w2.alloc (Obj.cells #[.pointer none,.pointer none,.pointer none,.pointer none,.pointer none,.pointer none] 167)):=(Below.refl _ _).alloc (Nat.le_refl _) _;replace fr0:=aJ hb r0 fr0;replace fr1:=aJ hb r1 fr1;replace q0:=aB hb q0;replace q1:=aB hb q1;replace e0:=aB hb e0;replace e1:=aB hb e1;replace e2:=aB hb e2;replace e3:=aB hb e3;replace e4:=aB hb e4;replace r0:=aB hb r0;replace r1:=aB hb r1;replace hon:=aA.to hon hb;replace g:=S.oe g hb;replace g':=S.oe g' hb;have T0:gB (w2.alloc (Obj.cells #[.pointer none,.pointer none,.pointer none,.pointer none,.pointer none,.pointer none] 167)) w2.heap.size (fun _=>none) (fun _=>none):=gB.zero;have hTz:w2.heap.size<(w2.alloc (Obj.cells #[.pointer none,.pointer none,.pointer none,.pointer none,.pointer none,.pointer none] 167)).heap.size:=by simp
 clear hb;change Code.wp _ _ _ _ (w2.alloc (Obj.cells #[.pointer none,.pointer none,.pointer none,.pointer none,.pointer none,.pointer none] 167));generalize(w2.alloc (Obj.cells #[.pointer none,.pointer none,.pointer none,.pointer none,.pointer none,.pointer none] 167))=w3 at *;generalize w2.heap.size=BT at *;have HT0:=aH T0;clear T0;go_wp2_with fail
 go_loopw [30] (fun s wr=>∃ (k:Nat) (tp:Nat→Option Nat),k≤n∧s=.int .i64 k∧Hid (gB wr BT (gI (fun _=>none) (b.jobs.take k)) tp)∧wr.cell? ⟨w.heap.size,0,none⟩=some (.slice A n c)∧wr.cell? ⟨w.heap.size,1,none⟩=some (.slice A' m d)∧wr.cell? ⟨w.heap.size+1,0,none⟩=some (.int .i64 x.kind)∧wr.cell? ⟨w.heap.size+1,1,none⟩=some (.int .i64 x.job)∧wr.cell? ⟨w.heap.size+1,2,none⟩=some (.int .i64 x.every)∧wr.cell? ⟨w.heap.size+1,3,none⟩=some (.int .i64 x.time)∧wr.cell? ⟨w.heap.size+1,4,none⟩=some (.int .i64 x.client)∧wr.cell? ⟨w.heap.size+2,0,none⟩=some (.slice none 0 0)∧wr.cell? ⟨w.heap.size+2,1,none⟩=some (.slice none 0 0)∧wr.frozen? ⟨w.heap.size+2,0,none⟩=false∧wr.frozen? ⟨w.heap.size+2,1,none⟩=false∧S wr 3 A n (b.jobs.map bX)∧S wr 3 A' m (b.rung.map dN)∧BT<wr.heap.size∧aA w wr) (fun s _=>n-(intOf s).toNat)
 case atStart =>
  exact⟨0,fun _=>none,Nat.zero_le _,rfl,HT0,q0,q1,e0,e1,e2,e3,e4,r0,r1,fr0,fr1,g,g',hTz,hon⟩
 case round =>
  clear q0 q1 e0 e1 e2 e3 e4 r0 r1 fr0 fr1 g g' hTz hon HT0;obtain⟨k,tp,hk,rfl,HT,q0,q1,e0,e1,e2,e3,e4,r0,r1,fr0,fr1,g,g',hTz,hon⟩:=hrel;by_cases hlt:k<n
  · obtain⟨bb,off,j,rfl,hbb,hj,d0,d1,d2⟩:=g.atJ hlt;have hbj:=HG.out.ok j (List.mem_of_getElem? hj);unfold eX at hbj;have hi0:0≤j.id:=by omega
    have hi6:j.id<6:=by omega
    have hi6n:j.id.toNat<6:=by omega
    clear hbj;have hp:=HT.out.ptr j.id.toNat hi6n;have fp:=HT.out.frz j.id.toNat hi6n;generalize oH (tp j.id.toNat)=pv at hp;have HJ:=aH hj;have oBT:=OA.out BT (by omega);have oBT':=OB.out BT (by omega);clear hj;go_upto_region 12 with fail
    have heq:((wr.setCell ⟨BT,j.id.toNat,none⟩ (.pointer (some ⟨wr.heap.size,0,none⟩))).alloc (Obj.cells #[j.id,j.every,j.next] 136))=((wr.alloc (Obj.cells #[j.id,j.every,j.next] 136)).setCell ⟨BT,j.id.toNat,none⟩ (.pointer (some ⟨wr.heap.size,0,none⟩))):=by simp[go_sem,hTz,Nat.ne_of_lt hTz]
    rw[heq];have hal:aA wr (wr.alloc (Obj.cells #[j.id,j.every,j.next] 136)):=(Below.refl _ _).alloc (Nat.le_refl _) _;have T1:gB (wr.alloc (Obj.cells #[j.id,j.every,j.next] 136)) BT (gI (fun _=>none) (b.jobs.take k)) tp:=HT.out.oe hal
    have T2:=T1.put (k:=j.id.toNat) hi6n (o:=some wr.heap.size) (oj:=some j) (by simp) (fun b j' h1 h2=>by
     cases h1;cases h2
     exact⟨by omega,by simp[go_sem],by simp[go_sem],by simp[go_sem]⟩)
    rw[←JI,show b.jobs.take k ++[j]=b.jobs.take (k+1)from by rw[List.take_add_one,HJ.out];rfl]at T2;have T3:gB ((wr.alloc (Obj.cells #[j.id,j.every,j.next] 136)).setCell ⟨BT,j.id.toNat,none⟩ (.pointer (some ⟨wr.heap.size,0,none⟩))) BT (gI (fun _=>none) (b.jobs.take (k+1))) (fun i=>if i=j.id.toNat then some wr.heap.size else tp i):=T2;have HT2:=aH T3;replace fr0:=aJ hal r0 fr0;replace fr1:=aJ hal r1 fr1;replace q0:=aB hal q0;replace q1:=aB hal q1;replace e0:=aB hal e0;replace e1:=aB hal e1;replace e2:=aB hal e2;replace e3:=aB hal e3;replace e4:=aB hal e4;replace r0:=aB hal r0;replace r1:=aB hal r1;replace hon:=aA.to hon hal;replace g:=S.oe g hal;replace g':=S.oe g' hal;replace q0:((wr.alloc (Obj.cells #[j.id,j.every,j.next] 136)).setCell ⟨BT,j.id.toNat,none⟩ (.pointer (some ⟨wr.heap.size,0,none⟩))).cell? ⟨w.heap.size,0,none⟩=some (.slice (some ⟨bb,off,none⟩) n c):=eD q0 (by simp only;omega);replace q1:((wr.alloc (Obj.cells #[j.id,j.every,j.next] 136)).setCell ⟨BT,j.id.toNat,none⟩ (.pointer (some ⟨wr.heap.size,0,none⟩))).cell? ⟨w.heap.size,1,none⟩=some (.slice A' m d):=eD q1 (by simp only;omega);replace e0:((wr.alloc (Obj.cells #[j.id,j.every,j.next] 136)).setCell ⟨BT,j.id.toNat,none⟩ (.pointer (some ⟨wr.heap.size,0,none⟩))).cell? ⟨w.heap.size+1,0,none⟩=some (.int .i64 x.kind):=eD e0 (by simp only;omega);replace e1:((wr.alloc (Obj.cells #[j.id,j.every,j.next] 136)).setCell ⟨BT,j.id.toNat,none⟩ (.pointer (some ⟨wr.heap.size,0,none⟩))).cell? ⟨w.heap.size+1,1,none⟩=some (.int .i64 x.job):=eD e1 (by simp only;omega);replace e2:((wr.alloc (Obj.cells #[j.id,j.every,j.next] 136)).setCell ⟨BT,j.id.toNat,none⟩ (.pointer (some ⟨wr.heap.size,0,none⟩))).cell? ⟨w.heap.size+1,2,none⟩=some (.int .i64 x.every):=eD e2 (by simp only;omega);replace e3:((wr.alloc (Obj.cells #[j.id,j.every,j.next] 136)).setCell ⟨BT,j.id.toNat,none⟩ (.pointer (some ⟨wr.heap.size,0,none⟩))).cell? ⟨w.heap.size+1,3,none⟩=some (.int .i64 x.time):=eD e3 (by simp only;omega);replace e4:((wr.alloc (Obj.cells #[j.id,j.every,j.next] 136)).setCell ⟨BT,j.id.toNat,none⟩ (.pointer (some ⟨wr.heap.size,0,none⟩))).cell? ⟨w.heap.size+1,4,none⟩=some (.int .i64 x.client):=eD e4 (by simp only;omega);replace r0:((wr.alloc (Obj.cells #[j.id,j.every,j.next] 136)).setCell ⟨BT,j.id.toNat,none⟩ (.pointer (some ⟨wr.heap.size,0,none⟩))).cell? ⟨w.heap.size+2,0,none⟩=some (.slice none 0 0):=eD r0 (by simp only;omega);replace r1:((wr.alloc (Obj.cells #[j.id,j.every,j.next] 136)).setCell ⟨BT,j.id.toNat,none⟩ (.pointer (some ⟨wr.heap.size,0,none⟩))).cell? ⟨w.heap.size+2,1,none⟩=some (.slice none 0 0):=eD r1 (by simp only;omega)
    replace fr0:((wr.alloc (Obj.cells #[j.id,j.every,j.next] 136)).setCell ⟨BT,j.id.toNat,none⟩ (.pointer (some ⟨wr.heap.size,0,none⟩))).frozen? ⟨w.heap.size+2,0,none⟩=false:=by simpa using fr0
    replace fr1:((wr.alloc (Obj.cells #[j.id,j.every,j.next] 136)).setCell ⟨BT,j.id.toNat,none⟩ (.pointer (some ⟨wr.heap.size,0,none⟩))).frozen? ⟨w.heap.size+2,1,none⟩=false:=by simpa using fr1
    replace g:=S.off g (p:=⟨BT,j.id.toNat,none⟩) oBT (.pointer (some ⟨wr.heap.size,0,none⟩));replace g':=S.off g' (p:=⟨BT,j.id.toNat,none⟩) oBT' (.pointer (some ⟨wr.heap.size,0,none⟩));replace hon:=hon.put (p:=⟨BT,j.id.toNat,none⟩) (by simp only;omega) (.pointer (some ⟨wr.heap.size,0,none⟩));have hTz2:BT<((wr.alloc (Obj.cells #[j.id,j.every,j.next] 136)).setCell ⟨BT,j.id.toNat,none⟩ (.pointer (some ⟨wr.heap.size,0,none⟩))).heap.size:=by simp;omega
    clear T1 T2 T3 hal heq hp fp HT hTz d0 d1 d2 hbb oBT oBT';change Code.wp _ _ _ _ ((wr.alloc (Obj.cells #[j.id,j.every,j.next] 136)).setCell ⟨BT,j.id.toNat,none⟩ (.pointer (some ⟨wr.heap.size,0,none⟩)));generalize((wr.alloc (Obj.cells #[j.id,j.every,j.next] 136)).setCell ⟨BT,j.id.toNat,none⟩ (.pointer (some ⟨wr.heap.size,0,none⟩)))=w5 at *;go_wp2_with fail
    go_roundw
    case measure=>simp[intOf]<;>omega
    case rel =>
     exact⟨k+1,_,by omega,by go_num,HT2,q0,q1,e0,e1,e2,e3,e4,r0,r1,fr0,fr1,g,g',hTz2,hon⟩
  obtain rfl:n=k:=by omega
  have hT:=HT.out;rw[List.take_of_length_le (by rw[HL.out];omega)]at hT;have HTT:=aH hT;clear hT HT hlt hk;have hz0:w.heap.size<wr.heap.size:=by omega
  have hz1:w.heap.size+1<wr.heap.size:=by omega
  have hz2:w.heap.size+2<wr.heap.size:=by omega
  obtain⟨i0,hi0,hzz0,hzz1,hzz2⟩:=info_parts IS;have HI:=aH hi0;have HZ0:=aH hzz0;have HZ1:=aH hzz1;have HZ2:=aH hzz2;have G':=aH g';clear hi0 hzz0 hzz1 hzz2;go_wp2_with (at_builtin;refine aQ _ rfl _ _ 64 rfl wr.heap.size 77 i0 _ 3 24 underlying64 HI.out HZ0.out HZ1.out HZ2.out rfl (by decide) _ 0 [] rfl ?c1 wr.heap.size A' m d (b.rung.map dN) rfl ?c2 (EI b.rung) ?c3 ?c4 ?c5 ?_)
  case c1=>exact⟨World.ownsRow_made _ _ _ (Nat.le_refl _) (by simp[maxLen]) (by simp),rfl,by simp⟩
  case c2=>exact G'.out.keep fun p hp=>World.cell?_alloc_lt wr _ p (by omega)
  case c3=>unfold maxLen;omega
  case c4=>omega
  case c5=>simp
  intro v8 w8 own8 grow8 hv8;obtain⟨A8,c8,rfl,hc1,hc2⟩:=own8.slice;have h38:aA wr w8:=aT (aA.new (aA.Zz wr) (Obj.cells #[] 77)) (by simp) grow8 (fun g hg=>by simp[Value.ownBlock]at hg;omega);have fA8:aR wr.heap.size A8:=own8.fresh (Nat.le_refl _);have s8:=own8.sl;have HOWN:=aH own8;have hbase:BT<wr.heap.size:=hTz;have HTW:=HTT;have HT8:=aH (HTT.out.oe h38);replace fr0:=aJ h38 r0 fr0;replace fr1:=aJ h38 r1 fr1;replace q0:=aB h38 q0;replace q1:=aB h38 q1;replace e0:=aB h38 e0;replace e1:=aB h38 e1;replace e2:=aB h38 e2;replace e3:=aB h38 e3;replace e4:=aB h38 e4;replace r0:=aB h38 r0;replace r1:=aB h38 r1;replace hon:=aA.to hon h38;replace g:=S.oe g h38;replace g':=S.oe g' h38;clear own8 grow8 hv8 HI HZ0 HZ1 HZ2 G' HTT hz0 hz1 hz2;go_upto_region 14 with fail
  have hob:aA w8 (w8.alloc (Obj.cells #[Nat,.slice A8 m c8] 66)):=(Below.refl _ _).alloc (Nat.le_refl _) _;have hNB:∀i b,i<6→tp i=some b→b≠w8.heap.size:=fun i b hi h1=>Nat.ne_of_lt (HT8.out.lt hi h1)
  have oB8:bQ m w8.heap.size A8:=Sl.Zx s8 (Nat.le_refl _);have o0:(w8.alloc (Obj.cells #[Nat,.slice A8 m c8] 66)).cell? ⟨w8.heap.size,0,none⟩=some (.slice none 0 0):=by simp[go_sem]
  have o1:(w8.alloc (Obj.cells #[Nat,.slice A8 m c8] 66)).cell? ⟨w8.heap.size,1,none⟩=some (.slice A8 m c8):=by simp[go_sem]
  have fo0:(w8.alloc (Obj.cells #[Nat,.slice A8 m c8] 66)).frozen? ⟨w8.heap.size,0,none⟩=false:=by simp[go_sem]
  have fo1:(w8.alloc (Obj.cells #[Nat,.slice A8 m c8] 66)).frozen? ⟨w8.heap.size,1,none⟩=false:=by simp[go_sem]
  have HT9:=aH (HT8.out.oe hob);have HOW9:=aH (HOWN.out.alloc (Obj.cells #[Nat,.slice A8 m c8] 66));have HROW:=aH (fun g (hg:Value.ownBlock (.slice A8 m c8)=some g)=>(HOWN.out.1.lt g hg).2);clear HOWN;have hwr8:wr.heap.size≤w8.heap.size:=h38.size;replace s8:=S.oe s8 hob;replace fr0:=aJ hob r0 fr0;replace fr1:=aJ hob r1 fr1;replace q0:=aB hob q0;replace q1:=aB hob q1;replace e0:=aB hob e0;replace e1:=aB hob e1;replace e2:=aB hob e2;replace e3:=aB hob e3;replace e4:=aB hob e4;replace r0:=aB hob r0;replace r1:=aB hob r1;replace hon:=aA.to hon hob;replace g:=S.oe g hob;replace g':=S.oe g' hob;have hBO:BT<w8.heap.size:=by omega
  clear HT8 hob h38;change Code.wp _ _ _ _ (w8.alloc (Obj.cells #[Nat,.slice A8 m c8] 66));generalize w8.alloc (Obj.cells #[Nat,.slice A8 m c8] 66)=w9 at *;generalize w8.heap.size=BO at *;have HNB:=aH hNB;clear hNB;have hk6:x.job.toNat<6:=by omega
  have tk:=HT9.out.ptr x.job.toNat hk6;have ftk:=HT9.out.frz x.job.toNat hk6;obtain⟨pv,hpv⟩:∃pv,pv=oH (tp x.job.toNat):=⟨_,rfl⟩
  rw[←hpv]at tk;have HPV:=aH hpv;clear hpv;have hS0:Sw w BT BO (gI (fun _=>none) b.jobs) b.rung w9 tp A8 m c8:=⟨HT9.out,HNB.out,o0,o1,fo0,fo1,s8,fun a e=>by have:=fA8 a e;omega,hc1,oB8,fA8.Zx (by omega),r0,r1,fr0,fr1,hon,hTw,hBO⟩
  have HS:=aH hS0
  have hcase:(gI (fun _=>none) b.jobs x.job.toNat=none∧pv=.pointer none)∨∃j bj,tp x.job.toNat=some bj∧gI (fun _=>none) b.jobs x.job.toNat=some j∧pv=.pointer (some ⟨bj,0,none⟩)∧¬eX j∧w9.cell? ⟨bj,0,none⟩=some (.int .i64 j.id)∧w9.cell? ⟨bj,1,none⟩=some (.int .i64 j.every)∧w9.cell? ⟨bj,2,none⟩=some (.int .i64 j.next):=by
   have hk6:x.job.toNat<6:=by omega
   rw[HPV.out]
   cases htk:gI (fun _=>none) b.jobs x.job.toNat with
   |none=>left;rw[(HT9.out.non _ hk6).2 htk];exact⟨rfl,rfl⟩
   |some j =>
     right
     cases hpk:tp x.job.toNat with
     |none=>have:=(HT9.out.non _ hk6).1 hpk;rw[htk]at this;cases this
     |some bj =>
       obtain⟨h3,h4,h5,h6⟩:=HT9.out.job _ bj j hk6 hpk htk;have hjm:=(JD (fun y hy=>by have:=HG.out.ok y hy;unfold eX at this;omega) HG.out.ord _ _ _).1 htk;rcases hjm with ⟨hjm,_⟩| ⟨_,hjm⟩
       · exact⟨j,bj,rfl,rfl,rfl,HG.out.ok j hjm,h4,h5,h6⟩
       cases hjm
  have HNW:=aH (fun i b hi h1=>HTW.out.lt (i:=i) (b:=b) hi h1);clear HT9 HTW HNB fA8 hc1 hc2 hTz HPV;have hz9:BO<w9.heap.size:=World.block_lt_of_cell? _ _ o0;have hz9a:BT<w9.heap.size:=by omega
  have hTO:BT≠BO:=by omega
  have hk0:¬x.job<0:=by omega
  go_upto_block 2 with fail
  go_cut [] (fun wx=>∃tp' A2 n2 c2,Hid (Sw w BT BO (qH b x) (oD b x) wx tp' A2 n2 c2))
  case first =>
   rcases hcase with ⟨htk,rfl⟩| ⟨j,bj,htpk,htk,rfl,hbj,j0,j1,j2⟩
   · have HTK:=aH htk;clear htk;have hr2:oD b x=b.rung:=by unfold oD;rw[HTK.out]
     by_cases h1:x.kind=1
     · have ht2:qH b x=mG (gI (fun _=>none) b.jobs) x.job.toNat (some ⟨x.job,x.every,x.time⟩):=by unfold qH;dsimp only;rw[if_pos ⟨h1,HTK.out⟩]
       have HT2:=aH ht2;have HR2:=aH hr2;clear ht2 hr2;have hd1:(x.kind ==1)=true:=by simp;omega
       clear h1;go_wp2_with fail;go_meet;have heq:((w9.setCell ⟨BT,x.job.toNat,none⟩ (.pointer (some ⟨w9.heap.size,0,none⟩))).alloc (Obj.cells #[x.job,x.every,x.time] 136))=((w9.alloc (Obj.cells #[x.job,x.every,x.time] 136)).setCell ⟨BT,x.job.toNat,none⟩ (.pointer (some ⟨w9.heap.size,0,none⟩))):=by simp[go_sem,hz9a,Nat.ne_of_lt hz9a]
       rw[heq];have hal:aA w9 (w9.alloc (Obj.cells #[x.job,x.every,x.time] 136)):=(Below.refl _ _).alloc (Nat.le_refl _) _
       exact⟨_,A8,m,c8,aH (by
        rw[HT2.out,HR2.out]
        exact(HS.out.oe hal).put hk6 (o:=some w9.heap.size) (oj:=some ⟨x.job,x.every,x.time⟩) (by simp) (fun z h=>by cases h;omega) (fun b j h1 h2=>by
         cases h1;cases h2
         exact⟨by omega,by simp[go_sem],by simp[go_sem],by simp[go_sem]⟩))⟩
     by_cases h2:x.kind=2
     · have ht2:qH b x=mG (gI (fun _=>none) b.jobs) x.job.toNat none:=by unfold qH;dsimp only;rw[if_neg (fun h=>h1 h.1),if_pos h2]
       have HT2:=aH ht2;have HR2:=aH hr2;clear ht2 hr2;have hd1:(x.kind ==1)=false:=by simp;omega
       have hd2:(x.kind ==2)=true:=by simp;omega
       clear h1 h2;go_wp2_with fail;go_meet;exact⟨_,A8,m,c8,aH (by rw[HT2.out,HR2.out];exact HS.out.put hk6 (o:=none) (oj:=none) (by simp) (fun z h=>by cases h) (fun b j h=>by cases h))⟩
     have ht2:qH b x=gI (fun _=>none) b.jobs:=by unfold qH;dsimp only;rw[if_neg (fun h=>h1 h.1),if_neg h2,HTK.out]
     have HT2:=aH ht2;have HR2:=aH hr2;clear ht2 hr2;by_cases h3:x.kind=3
     · have hd1:(x.kind ==1)=false:=by simp;omega
       have hd2:(x.kind ==2)=false:=by simp;omega
       have hd3:(x.kind ==3)=true:=by simp;omega
       clear h1 h2 h3;go_upto_region 19 with fail
       have k0:=aC e0;have k3:=aC e3;have k9:=aC o1;refine aS (by kernel_rfl) (by kernel_rfl) ?_
       repeat(go_big_quiet_step (fail))
       refine wpQuiet_nil ?_;intro wx hbx;clear k0 k3 k9;go_wp2_with fail;go_meet;exact⟨tp,A8,m,c8,aH (by rw[HT2.out,HR2.out];exact HS.out.oe hbx)⟩
     have hd1:(x.kind ==1)=false:=by simp;omega
     have hd2:(x.kind ==2)=false:=by simp;omega
     have hd3:(x.kind ==3)=false:=by simp;omega
     clear h1 h2 h3;go_upto_region 19 with fail
     have k0:=aC e0;have k3:=aC e3;have k9:=aC o1;refine aS (by kernel_rfl) (by kernel_rfl) ?_
     repeat(go_big_quiet_step (fail))
     refine wpQuiet_nil ?_;intro wx hbx;clear k0 k3 k9;go_wp2_with fail;go_meet;exact⟨tp,A8,m,c8,aH (by rw[HT2.out,HR2.out];exact HS.out.oe hbx)⟩
   have HTK:=aH htk;clear htk;by_cases h2:x.kind=2
   · have hr2:oD b x=b.rung:=by unfold oD;rw[HTK.out];dsimp only;rw[if_neg (by omega)]
     have ht2:qH b x=mG (gI (fun _=>none) b.jobs) x.job.toNat none:=by unfold qH;dsimp only;rw[if_neg (by omega),if_pos h2]
     have HT2:=aH ht2;have HR2:=aH hr2;clear ht2 hr2;have hd1:(x.kind ==1)=false:=by simp;omega
     have hd2:(x.kind ==2)=true:=by simp;omega
     clear h2;go_wp2_with fail;go_meet;exact⟨_,A8,m,c8,aH (by rw[HT2.out,HR2.out];exact HS.out.put hk6 (o:=none) (oj:=none) (by simp) (fun z h=>by cases h) (fun b j h=>by cases h))⟩
   by_cases hr:x.kind=3∧j.next=x.time∧b.rung.length<60
   · obtain⟨h3,h4,h5⟩:=hr;have ht2:qH b x=mG (gI (fun _=>none) b.jobs) x.job.toNat (some ⟨x.job,j.every,x.time+j.every⟩):=by unfold qH;dsimp only;rw[if_neg (fun h=>by rw[HTK.out]at h;cases h.2),if_neg h2,HTK.out];dsimp only;rw[if_pos ⟨h3,h4,h5⟩]
     have hr2:oD b x=b.rung ++[⟨x.job,x.time,x.client⟩]:=by unfold oD;rw[HTK.out];dsimp only;rw[if_pos ⟨h3,h4,h5⟩]
     have HT2:=aH ht2;have HR2:=aH hr2;clear ht2 hr2;have hd5:decide ((m:Int)<60)=true:=by have:=HLM.out;simp;omega
     have hd6:(j.next ==x.time)=true:=by simpa using h4
     have hd7:((m:Int)<60):=by have:=HLM.out;omega
     have HTP:=aH htpk
     have hww:IntKind.i64.wrap (x.time+j.every)=x.time+j.every:=by
      have h9:=uF HX.out h3;unfold eX at hbj;rw[IntKind.wrap_i64];omega
     have hd1:(x.kind ==1)=false:=by simp;omega
     have hd2:(x.kind ==2)=false:=by simp;omega
     have hd3:(x.kind ==3)=true:=by simp;omega
     clear h2 h3 h4 h5 htpk hbj;go_upto_region 19 with fail
     have k0:=aC e0;have k3:=aC e3;have k9:=aC o1;have k5:=aC j2;refine aS (by kernel_rfl) (by kernel_rfl) ?_
     repeat(go_big_quiet_step (fail))
     refine wpQuiet_nil ?_;intro wx hbx;clear k0 k3 k9 k5;have HS1:=aH (HS.out.oe hbx);replace e1:=aB hbx e1;replace e3:=aB hbx e3;replace e4:=aB hbx e4;replace o1:=aB hbx o1;replace o0:=aB hbx o0;replace fo1:=aJ hbx HS.out.o1 fo1;replace j0:=aB hbx j0;replace j1:=aB hbx j1;replace j2:=aB hbx j2;replace tk:=aB hbx tk;replace ftk:=aJ hbx (HS.out.tab.ptr _ hk6) ftk;replace hon:=aA.to hon hbx;have HOWx:=aH (cH.below HOW9.out hbx);have hwx9:w9.heap.size≤wx.heap.size:=hbx.size;obtain⟨i0,hi0,hzz0,hzz1,hzz2⟩:=info_parts IS;have HI:=aH hi0;have HZ0:=aH hzz0;have HZ1:=aH hzz1;have HZ2:=aH hzz2;clear hi0 hzz0 hzz1 hzz2
     have hnew:Sl (wx.alloc (Obj.cells #[x.job,x.time,x.client] 77)) (wx.heap.size+1) 3 (some ⟨wx.heap.size,0,none⟩) 1 [dN ⟨x.job,x.time,x.client⟩]:=by
      have:=Sl.block (k:=3) (w:=wx.alloc (Obj.cells #[x.job,x.time,x.client] 77)) [dN ⟨x.job,x.time,x.client⟩] (mM rfl) (by simp[dN]) (by rfl);simpa using this
     have HNEW:=aH hnew;have HON:=aH hon;have hwrx:wr.heap.size≤wx.heap.size:=by omega
     clear hnew hbx hon;go_wp2_with (at_builtin;refine aQ _ rfl (.tmp 97) (.tmp 105) 64 rfl wr.heap.size 77 i0 _ 3 24 underlying64 HI.out HZ0.out HZ1.out HZ2.out rfl (by decide) (.slice A8 m c8) m (b.rung.map dN) rfl (HOWx.out.alloc _) _ (some ⟨wx.heap.size,0,none⟩) 1 1 [dN ⟨x.job,x.time,x.client⟩] rfl HNEW.out (by simp[dN,Value.oneCell']) (by unfold maxLen;omega) (by omega) (by simp;omega) ?_)
     intro v10 w10 own10 grow10 hv10;obtain⟨A10,c10,rfl,hc10,_⟩:=own10.slice;have hal:aA wx (wx.alloc (Obj.cells #[x.job,x.time,x.client] 77)):=(Below.refl _ _).alloc (Nat.le_refl _) _;have nB:∀z,z<wr.heap.size→some z≠Value.ownBlock (.slice A8 m c8):=fun z hz=>HOWx.out.Zo hz
     have nO:some BO≠Value.ownBlock (.slice A8 m c8):=fun e=>by have:=HROW.out _ e.symm;omega
     have nJ:=nB _ (HNW.out _ _ hk6 HTP.out);have bjT:=(HS1.out.tab.job _ _ _ hk6 HTP.out HTK.out).1;have bjO:=HS1.out.nb _ _ hk6 HTP.out;replace e1:=aD grow10 (aB hal e1) (nB _ (by simp only;omega));replace e3:=aD grow10 (aB hal e3) (nB _ (by simp only;omega));replace j1:=aD grow10 (aB hal j1) nJ;replace ftk:=bM grow10 (aB hal tk) (aJ hal tk ftk) (nB _ (by simp only;omega));replace tk:=aD grow10 (aB hal tk) (nB _ (by simp only;omega));replace fo1:=bM grow10 (aB hal o1) (aJ hal o1 fo1) nO;replace o1:=aD grow10 (aB hal o1) nO;have hon10:aA w w10:=aT (HON.out.new _) (by simp;omega) grow10 (fun g hg=>by have:=(HOWx.out.1.lt g hg).1;omega);have oT10:bQ (m+1) BT A10:=fun _ a e=>by have:=own10.fresh (Nat.le_refl _) a e;omega
     have oO10:bQ (m+1) BO A10:=fun _ a e h9=>by
      subst e;rcases hv10 with h|h
      · exact nO (by rw[←h,←h9];rfl)
      have h8:some a.block=some (wx.heap.size+1):=h;simp at h8;omega
     have s10:S w10 3 A10 (m+1) ((b.rung ++([⟨x.job,x.time,x.client⟩]:List iO)).map dN):=by rw[List.map_append];exact own10.sl
     have hS2:=(HS1.out.oe hal).grew grow10 (nB _ (by omega)) nO (nB _ (by omega)) (fun i b hi h1=>nB _ (HNW.out i b hi h1)) hon10 s10 (fun a e=>by have:=own10.fresh (Nat.le_refl _) a e;omega) hc10 oO10 oT10;have HS2:=aH hS2;clear hS2 s10 oO10 oT10 hon10 nJ nO nB hal own10 grow10 hv10 j0 j2 e4 o0 hc10 HI HZ0 HZ1 HZ2;go_upto_region 21 with fail
     replace e1:=eD (z:=BO) (o:=1) (u:=.slice A10 (m+1) c10) e1 (by simp only;omega);replace e3:=eD (z:=BO) (o:=1) (u:=.slice A10 (m+1) c10) e3 (by simp only;omega);replace j1:=eD (z:=BO) (o:=1) (u:=.slice A10 (m+1) c10) j1 (by simp only;exact bjO);replace tk:=eD (z:=BO) (o:=1) (u:=.slice A10 (m+1) c10) tk (by simp only;omega);replace ftk:(w10.setCell ⟨BO,1,none⟩ (.slice A10 (m+1) c10)).frozen? ⟨BT,x.job.toNat,none⟩=false:=by simpa using ftk
     clear o1 fo1 bjO;change Code.wp _ _ _ _ (w10.setCell ⟨BO,1,none⟩ (.slice A10 (m+1) c10));generalize w10.setCell ⟨BO,1,none⟩ (.slice A10 (m+1) c10)=w11 at *;have hz11:BT<w11.heap.size:=World.block_lt_of_cell? _ _ tk
     go_region_held3 (fun w'=>w'.cell? ⟨w.heap.size+1,1,none⟩=some (.int .i64 x.job)∧w'.cell? ⟨w.heap.size+1,3,none⟩=some (.int .i64 x.time)∧w'.cell? ⟨bj,1,none⟩=some (.int .i64 j.every))
      (first|exact⟨e1,e3,j1⟩|exact⟨fS e1 _,fS e3 _,fS j1 _⟩|exact⟨eD (fS e1 _) (by simp only;omega),eD (fS e3 _) (by simp only;omega),eD (fS j1 _) (by simp only;exact bjT)⟩|exact⟨fS (eD e1 (by simp only;omega)) _,fS (eD e3 (by simp only;omega)) _,fS (eD j1 (by simp only;exact bjT)) _⟩|go_keep)
      (fail)
     go_wp2_with fail;go_meet;have heq:((w11.setCell ⟨BT,x.job.toNat,none⟩ (.pointer (some ⟨w11.heap.size,0,none⟩))).alloc (Obj.cells #[x.job,j.every,(x.time+j.every:Int)] 136))=((w11.alloc (Obj.cells #[x.job,j.every,(x.time+j.every:Int)] 136)).setCell ⟨BT,x.job.toNat,none⟩ (.pointer (some ⟨w11.heap.size,0,none⟩))):=by simp[go_sem,hz11,Nat.ne_of_lt hz11]
     have hal:aA w11 (w11.alloc (Obj.cells #[x.job,j.every,(x.time+j.every:Int)] 136)):=(Below.refl _ _).alloc (Nat.le_refl _) _;have hO12:BO<w11.heap.size:=World.block_lt_of_cell? _ _ HS2.out.o0
     have hS5:Sw w BT BO (mG (gI (fun _=>none) b.jobs) x.job.toNat (some ⟨x.job,j.every,x.time+j.every⟩)) (b.rung ++([⟨x.job,x.time,x.client⟩]:List iO)) ((w11.alloc (Obj.cells #[x.job,j.every,(x.time+j.every:Int)] 136)).setCell ⟨BT,x.job.toNat,none⟩ (.pointer (some ⟨w11.heap.size,0,none⟩))) (fun i=>if i=x.job.toNat then some w11.heap.size else tp i) A10 (m+1) c10 :=
      (HS2.out.oe hal).put hk6 (o:=some w11.heap.size) (oj:=some ⟨x.job,j.every,x.time+j.every⟩) (by simp) (fun z h=>by cases h;omega) (fun b j h1 h2=>by
       cases h1;cases h2
       exact⟨by omega,by simp[go_sem],by simp[go_sem],by simp[go_sem]⟩)
     rw[←heq]at hS5;have hS6:=hS5.oe (aA.draw (aA.Zz _));rw[←HT2.out,←HR2.out]at hS6;exact⟨_,A10,m+1,c10,aH hS6⟩
   have hr2:oD b x=b.rung:=by unfold oD;rw[HTK.out];dsimp only;rw[if_neg hr]
   have ht2:qH b x=gI (fun _=>none) b.jobs:=by unfold qH;dsimp only;rw[if_neg (fun h=>by rw[HTK.out]at h;cases h.2),if_neg h2,HTK.out];dsimp only;rw[if_neg hr]
   have HT2:=aH ht2;have HR2:=aH hr2;clear ht2 hr2;by_cases h3:x.kind=3
   · by_cases h4:j.next=x.time
     · have hd5:decide ((m:Int)<60)=false:=by have:=HLM.out;simp;omega
       have hd6:(j.next ==x.time)=true:=by simpa using h4
       have hd7:¬ ((m:Int)<60):=by have:=HLM.out;omega
       have hd1:(x.kind ==1)=false:=by simp;omega
       have hd2:(x.kind ==2)=false:=by simp;omega
       have hd3:(x.kind ==3)=true:=by simp;omega
       clear h2 h3 h4 hr;go_upto_region 19 with fail
       have k0:=aC e0;have k3:=aC e3;have k9:=aC o1;have k5:=aC j2;refine aS (by kernel_rfl) (by kernel_rfl) ?_
       repeat(go_big_quiet_step (fail))
       refine wpQuiet_nil ?_;intro wx hbx;clear k0 k3 k9 k5;go_wp2_with fail;go_meet;exact⟨tp,A8,m,c8,aH (by rw[HT2.out,HR2.out];exact HS.out.oe hbx)⟩
     have hd6:(j.next ==x.time)=false:=by simpa using h4
     have hd1:(x.kind ==1)=false:=by simp;omega
     have hd2:(x.kind ==2)=false:=by simp;omega
     have hd3:(x.kind ==3)=true:=by simp;omega
     clear h2 h3 h4 hr;go_upto_region 19 with fail
     have k0:=aC e0;have k3:=aC e3;have k9:=aC o1;have k5:=aC j2;refine aS (by kernel_rfl) (by kernel_rfl) ?_
     repeat(go_big_quiet_step (fail))
     refine wpQuiet_nil ?_;intro wx hbx;clear k0 k3 k9 k5;go_wp2_with fail;go_meet;exact⟨tp,A8,m,c8,aH (by rw[HT2.out,HR2.out];exact HS.out.oe hbx)⟩
   by_cases h1:x.kind=1
   · have hd1:(x.kind ==1)=true:=by simp;omega
     have hd2:(x.kind ==2)=false:=by simp;omega
     have hd3:(x.kind ==3)=false:=by simp;omega
     clear h1 h2 h3 hr;go_upto_region 19 with fail
     have k0:=aC e0;have k3:=aC e3;have k9:=aC o1;refine aS (by kernel_rfl) (by kernel_rfl) ?_
     repeat(go_big_quiet_step (fail))
     refine wpQuiet_nil ?_;intro wx hbx;clear k0 k3 k9;go_wp2_with fail;go_meet;exact⟨tp,A8,m,c8,aH (by rw[HT2.out,HR2.out];exact HS.out.oe hbx)⟩
   have hd1:(x.kind ==1)=false:=by simp;omega
   have hd2:(x.kind ==2)=false:=by simp;omega
   have hd3:(x.kind ==3)=false:=by simp;omega
   clear h1 h2 h3 hr;go_upto_region 19 with fail
   have k0:=aC e0;have k3:=aC e3;have k9:=aC o1;refine aS (by kernel_rfl) (by kernel_rfl) ?_
   repeat(go_big_quiet_step (fail))
   refine wpQuiet_nil ?_;intro wx hbx;clear k0 k3 k9;go_wp2_with fail;go_meet;exact⟨tp,A8,m,c8,aH (by rw[HT2.out,HR2.out];exact HS.out.oe hbx)⟩
  case rest =>
   obtain⟨tp',A2,n2,c2,HSW⟩:=hcut;clear hcase HS HOW9 HROW tk ftk o0 o1 fo0 fo1 s8 oB8 q0 q1 e0 e1 e2 e3 e4 r0 r1 fr0 fr1 g g' hon;have hon:=HSW.out.on;have o0:=HSW.out.o0;have o1:=HSW.out.o1;have fo0:=HSW.out.fo0;have fo1:=HSW.out.fo1;have r0:=HSW.out.r0;have r1:=HSW.out.r1;have fr0:=HSW.out.fr0;have fr1:=HSW.out.fr1;have s2:=HSW.out.s;obtain⟨t2,ht2⟩:∃t2,t2=qH b x:=⟨_,rfl⟩
   obtain⟨rg2,hr2⟩:∃rg2,rg2=oD b x:=⟨_,rfl⟩
   have hst:vR b x=⟨fU t2 6,rg2⟩:=by rw[ht2,hr2];exact KL b x
   have hSW:=HSW.out;rw[←ht2,←hr2]at hSW;rw[←hr2]at s2;have HST:=aH hst;have HSW2:=aH hSW;clear HSW hSW ht2 hr2 hst;have p0:=HSW2.out.tab.ptr 0 (by omega);obtain⟨v0,hv0⟩:∃v0,v0=oH (tp' 0):=⟨_,rfl⟩
   rw[←hv0]at p0;have HV0:=aH hv0;clear hv0;have p1:=HSW2.out.tab.ptr 1 (by omega);obtain⟨v1,hv1⟩:∃v1,v1=oH (tp' 1):=⟨_,rfl⟩
   rw[←hv1]at p1;have HV1:=aH hv1;clear hv1;have p2:=HSW2.out.tab.ptr 2 (by omega);obtain⟨v2,hv2⟩:∃v2,v2=oH (tp' 2):=⟨_,rfl⟩
   rw[←hv2]at p2;have HV2:=aH hv2;clear hv2;have p3:=HSW2.out.tab.ptr 3 (by omega);obtain⟨v3,hv3⟩:∃v3,v3=oH (tp' 3):=⟨_,rfl⟩
   rw[←hv3]at p3;have HV3:=aH hv3;clear hv3;have p4:=HSW2.out.tab.ptr 4 (by omega);obtain⟨v4,hv4⟩:∃v4,v4=oH (tp' 4):=⟨_,rfl⟩
   rw[←hv4]at p4;have HV4:=aH hv4;clear hv4;have p5:=HSW2.out.tab.ptr 5 (by omega);obtain⟨v5,hv5⟩:∃v5,v5=oH (tp' 5):=⟨_,rfl⟩
   rw[←hv5]at p5;have HV5:=aH hv5;clear hv5;have hzc:BO<wc.heap.size:=World.block_lt_of_cell? _ _ o0;have HJB:=aH (fun i bb j hi h1 h2=>(HSW2.out.tab.job i bb j hi h1 h2).2);have fA2:=HSW2.out.fresh;have hn2c:=HSW2.out.le;have hTw2:=HSW2.out.wT;have hTO2:=HSW2.out.TO;have HNB2:=aH HSW2.out.nb;have HNON:=aH HSW2.out.tab.non;have offO:=HSW2.out.offO;have fA2w:aR w.heap.size A2:=fun a e=>by have:=fA2 a e;omega
   have offR:bQ n2 (w.heap.size+2) A2:=fA2.Zx (by omega);clear HSW2
   have hvs:∀k,k<6→(#[v0,v1,v2,v3,v4,v5]:Array Value)[k]?=some (oH (tp' k)):=by
    intro k hk
    match k,hk with
    |0,_=>rw[←HV0.out];rfl
    |1,_=>rw[←HV1.out];rfl
    |2,_=>rw[←HV2.out];rfl
    |3,_=>rw[←HV3.out];rfl
    |4,_=>rw[←HV4.out];rfl
    |5,_=>rw[←HV5.out];rfl
   have HVS:=aH hvs;have hbz:wc.heap.size≤wc.heap.size:=Nat.le_refl _;obtain⟨zc,hzz⟩:∃zc,zc=wc.heap.size:=⟨_,rfl⟩
   have hzc2:BO<zc:=by omega
   have hown:cH wc zc 136 3 (.slice none 0 0) 0 ((fU t2 0).map bX):=cH.nil _ _ _ _;have HOJ:=aH hown;have HZC:=aH hzz;have HLZ:=aH (fun i bb j hi h1 h2=>(by have:=World.block_lt_of_cell? _ _ (HJB.out i bb j hi h1 h2).1;simp only at this;omega:bb<zc));clear hvs hown hbz HV0 HV1 HV2 HV3 HV4 HV5 hzz;go_wp2_with fail;clear p0 p1 p2 p3 p4 p5
   go_loopw [127] (fun s wr=>∃ (k:Nat) (A3:Option Addr) (n3 c3:Nat),k≤6∧n3≤k∧s=.int .i64 k∧zc≤wr.heap.size∧Hid (cH wr zc 136 3 (.slice A3 n3 c3) n3 ((fU t2 k).map bX))∧wr.cell? ⟨BO,0,none⟩=some (.slice A3 n3 c3)∧wr.frozen? ⟨BO,0,none⟩=false∧wr.cell? ⟨BO,1,none⟩=some (.slice A2 n2 c2)∧wr.cell? ⟨w.heap.size+1+1,0,none⟩=some (.slice none 0 0)∧wr.cell? ⟨w.heap.size+1+1,1,none⟩=some (.slice none 0 0)∧wr.frozen? ⟨w.heap.size+1+1,0,none⟩=false∧wr.frozen? ⟨w.heap.size+1+1,1,none⟩=false∧Sl wr zc 3 A2 n2 (rg2.map dN)∧Hid (∀ (i bb:Nat) (j:dB),i<6→tp' i=some bb→t2 i=some j→wr.cell? ⟨bb,0,none⟩=some (.int .i64 j.id)∧wr.cell? ⟨bb,1,none⟩=some (.int .i64 j.every)∧wr.cell? ⟨bb,2,none⟩=some (.int .i64 j.next))∧aA w wr) (fun s _=>6-(intOf s).toNat)
   case atStart =>
    exact⟨0,none,0,0,by omega,by omega,rfl,by rw[HZC.out];exact Nat.le_refl _,HOJ,o0,fo0,o1,r0,r1,fr0,fr1,by rw[HZC.out];exact s2,HJB,hon⟩
   case round =>
    clear o0 fo0 o1 fo1 r0 r1 fr0 fr1 s2 HJB hon HOJ hzc;obtain⟨k,A3,n3,c3,hk,hnk,rfl,hzr,HO,o0,fo0,o1,r0,r1,fr0,fr1,s2,HJ,hon⟩:=hrel;by_cases hlt:k<6
    · have hki:(k:Int)<6:=by omega
      have hcs:(t2 k=none∧tp' k=none)∨∃j bb,t2 k=some j∧tp' k=some bb:=by
       cases h1:t2 k with
       |none=>exact Or.inl ⟨rfl,(HNON.out k hlt).2 h1⟩
       |some j =>
         cases h2:tp' k with
         |none=>have:=(HNON.out k hlt).1 h2;rw[h1]at this;cases this
         |some bb=>exact Or.inr ⟨j,bb,rfl,rfl⟩
      have hvk:=HVS.out k hlt;have HLT:=aH hlt;rcases hcs with ⟨htk,hpk⟩| ⟨j,bb,htk,hpk⟩
      · have hix:∀w,(Instr.index 167 (.agg #[v0,v1,v2,v3,v4,v5]) (.int .i64 (k:Int))).run prog w=.ok (.pointer none) w:=fun w=>PY v0 v1 v2 v3 v4 v5 _ k hlt (by rw[hvk,hpk];rfl) w
        have HTK:=aH htk;clear hvk hpk htk hlt;go_wp2_with fail
        go_roundw
        case measure=>simp[intOf]<;>omega
        case rel =>
         refine⟨k+1,A3,n3,c3,by omega,by omega,by go_num,hzr,?_,o0,fo0,o1,r0,r1,fr0,fr1,s2,HJ,hon⟩;have e:fU t2 (k+1)=fU t2 k:=by simp only[fU];rw[HTK.out];simp
         rw[e];exact HO
      have hix:∀w,(Instr.index 167 (.agg #[v0,v1,v2,v3,v4,v5]) (.int .i64 (k:Int))).run prog w=.ok (.pointer (some ⟨bb,0,none⟩)) w:=fun w=>PY v0 v1 v2 v3 v4 v5 _ k hlt (by rw[hvk,hpk];rfl) w
      have HTK:=aH htk;have HPK:=aH hpk;obtain⟨d0,d1,d2⟩:=HJ.out k bb j hlt hpk htk;have hbO:=HNB2.out k bb hlt hpk;clear hvk hpk htk hlt;go_upto_region 26 with fail
      obtain⟨i0,hi0,hzz0,hzz1,hzz2⟩:=info_parts IQ;have HI:=aH hi0;have HZ0:=aH hzz0;have HZ1:=aH hzz1;have HZ2:=aH hzz2;clear hi0 hzz0 hzz1 hzz2;have HNEW:=aH (Sl.unitJ (w:=wr) (t:=136) j);have hbA:aA wr ((wr.alloc (Obj.cells #[j.id,j.every,j.next] 136)).drew):=aA.draw ((Below.refl _ _).alloc (Nat.le_refl _) _);have hBOr:BO<wr.heap.size:=by omega
      have hbr:bb<wr.heap.size:=World.block_lt_of_cell? _ _ d0;have nB:∀z,z<zc→some z≠Value.ownBlock (.slice A3 n3 c3):=fun z hz=>HO.out.Zo hz
      have nO:=nB BO (by omega);have nR:=nB (w.heap.size+1+1) (by omega);have NB:=aH nB;have NO:=aH nO;have NR:=aH nR;have HBA:=aH hbA;clear nB nO nR hbA hix
      go_region_law (rw[if_pos (by simp[Region.wanted])];refine jA _ (.tmp 133) (.tmp 137) 63 rfl zc 136 i0 _ 3 24 underlying63 HI.out HZ0.out HZ1.out HZ2.out rfl (by decide) (.slice A3 n3 c3) n3 ((fU t2 k).map bX) (by simp[Act.eval,Act.put]) (HO.out.alloc (Obj.cells #[j.id,j.every,j.next] 136)) (wr.heap.size+1) (some ⟨wr.heap.size,0,none⟩) 1 1 [bX j] (by simp[Act.eval,Act.put]) HNEW.out (by simp[bX,Value.oneCell']) (by unfold maxLen;omega) (by omega) (by simp;omega) ?_;intro v8 w8 own8 grow0 hv8;obtain⟨A4,c4,rfl,hc4,_⟩:=own8.slice;have grow8:((wr.alloc (Obj.cells #[j.id,j.every,j.next] 136)).drew).grownBy w8 (Value.ownBlock (.slice A3 n3 c3)):=grow0;have fo8:=bM grow8 (aB HBA.out o0) (aJ HBA.out o0 fo0) NO.out;have o8:=aD grow8 (aB HBA.out o0) NO.out;clear grow0)
      all_goals
       have fo0:=fo8;have o0:=o8;replace o1:=aD grow8 (aB HBA.out o1) NO.out;replace fr0:=bM grow8 (aB HBA.out r0) (aJ HBA.out r0 fr0) NR.out;replace fr1:=bM grow8 (aB HBA.out r1) (aJ HBA.out r1 fr1) NR.out;replace r0:=aD grow8 (aB HBA.out r0) NR.out;replace r1:=aD grow8 (aB HBA.out r1) NR.out;replace s2:=(Sl.below s2 (HBA.out.mono hzr)).growB grow8 NB.out (by simp;omega);replace HJ:=aH (fun i bb j hi h1 h2=>(⟨aD grow8 (aB HBA.out (HJ.out i bb j hi h1 h2).1) (NB.out _ (HLZ.out i bb j hi h1 h2)),aD grow8 (aB HBA.out (HJ.out i bb j hi h1 h2).2.1) (NB.out _ (HLZ.out i bb j hi h1 h2)),aD grow8 (aB HBA.out (HJ.out i bb j hi h1 h2).2.2) (NB.out _ (HLZ.out i bb j hi h1 h2))⟩:w8.cell? ⟨bb,0,none⟩=some (.int .i64 j.id)∧w8.cell? ⟨bb,1,none⟩=some (.int .i64 j.every)∧w8.cell? ⟨bb,2,none⟩=some (.int .i64 j.next)));replace hon:aA w w8:=aT (aA.draw (hon.new _)) (by have:=hon.size;simp;omega) grow8 (fun g hg=>by have:=(HO.out.1.lt g hg).1;omega);have hz8:zc≤w8.heap.size:=by have:=grow8.size;simp at this;omega
       have HO8:=aH own8;clear own8 grow8 hv8 HO HBA NB NO NR HI HZ0 HZ1 HZ2 HNEW fo8 o8;have HO9:=aH (HO8.out.setCell (p:=⟨BO,0,none⟩) (by simp only;omega) (.slice A4 (n3+1) c4));have o0':(w8.setCell ⟨BO,0,none⟩ (.slice A4 (n3+1) c4)).cell? ⟨BO,0,none⟩=some (.slice A4 (n3+1) c4):=World.cell?_setCell_same w8 _ _ o0;have o1':(w8.setCell ⟨BO,0,none⟩ (.slice A4 (n3+1) c4)).cell? ⟨BO,1,none⟩=some (.slice A2 n2 c2):=by rw[iZ (by intro e;injection e with _ e2 _;cases e2)];exact o1
       have fo0':(w8.setCell ⟨BO,0,none⟩ (.slice A4 (n3+1) c4)).frozen? ⟨BO,0,none⟩=false:=by simpa using fo0
       have fr0':(w8.setCell ⟨BO,0,none⟩ (.slice A4 (n3+1) c4)).frozen? ⟨w.heap.size+1+1,0,none⟩=false:=by simpa using fr0
       have fr1':(w8.setCell ⟨BO,0,none⟩ (.slice A4 (n3+1) c4)).frozen? ⟨w.heap.size+1+1,1,none⟩=false:=by simpa using fr1
       have r0':=eD (z:=BO) (o:=0) (u:=.slice A4 (n3+1) c4) r0 (by simp only;omega);have r1':=eD (z:=BO) (o:=0) (u:=.slice A4 (n3+1) c4) r1 (by simp only;omega);have s2':=s2.setOffN (p:=⟨BO,0,none⟩) offO (.slice A4 (n3+1) c4);have hon':=hon.put (p:=⟨BO,0,none⟩) (by simp only;omega) (.slice A4 (n3+1) c4);have HJ':=aH (fun i bb j hi h1 h2=>(⟨eD (HJ.out i bb j hi h1 h2).1 (HNB2.out i bb hi h1),eD (HJ.out i bb j hi h1 h2).2.1 (HNB2.out i bb hi h1),eD (HJ.out i bb j hi h1 h2).2.2 (HNB2.out i bb hi h1)⟩:(w8.setCell ⟨BO,0,none⟩ (.slice A4 (n3+1) c4)).cell? ⟨bb,0,none⟩=some (.int .i64 j.id)∧(w8.setCell ⟨BO,0,none⟩ (.slice A4 (n3+1) c4)).cell? ⟨bb,1,none⟩=some (.int .i64 j.every)∧(w8.setCell ⟨BO,0,none⟩ (.slice A4 (n3+1) c4)).cell? ⟨bb,2,none⟩=some (.int .i64 j.next)));have hz9:zc≤(w8.setCell ⟨BO,0,none⟩ (.slice A4 (n3+1) c4)).heap.size:=by simpa using hz8
       clear o0 o1 fo0 fr0 fr1 r0 r1 s2 hon HJ HO8 hz8;generalize w8.setCell ⟨BO,0,none⟩ (.slice A4 (n3+1) c4)=w9 at *;go_wp2_with fail
       go_roundw
       case measure=>have hk9:=HLT.out;simp[intOf]<;>omega
       case rel =>
        have hk9:=HLT.out;refine⟨k+1,A4,n3+1,c4,by omega,by omega,by go_num,hz9,?_,o0',fo0',o1',r0',r1',fr0',fr1',s2',HJ',hon'⟩;have e:fU t2 (k+1)=fU t2 k ++[j]:=by simp only[fU];rw[HTK.out];rfl
        rw[e,List.map_append];exact HO9
    obtain rfl:k=6:=by omega
    have s3:=HO.out.sl;have hn3c:=HO.out.Zs;have fA3:=HO.out.fresh (Nat.le_refl _);have fA3w:aR w.heap.size A3:=fun a e=>by have:=fA3 a e;omega
    have off3:bQ n3 (w.heap.size+1+1) A3:=fA3.Zx (by omega);have offR':bQ n2 (w.heap.size+1+1) A2:=offR;clear HO HJ hlt hk;go_wp2_with fail;refine bodyPost_ret (v:=.tuple #[.agg #[.slice A3 n3 c3,.slice A2 n2 c2],()]) (by simp[results,results93,go_sem,r0,r1]) rfl ?_;rw[HST.out];exact⟨A3,n3,c3,A2,n2,c2,rfl,S.off (S.off s3 (p:=⟨w.heap.size+1+1,0,none⟩) off3 _) (p:=⟨w.heap.size+1+1,1,none⟩) off3 _,S.off (S.off (s2.more hzr) (p:=⟨w.heap.size+1+1,0,none⟩) offR' _) (p:=⟨w.heap.size+1+1,1,none⟩) offR' _,aA.put (aA.put hon (by simp only;omega) _) (by simp only;omega) _,fA3w,fA2w,hn3c,hn2c⟩
theorem xK (A A' : Option Addr)(n c m d : Nat)(b : cW)(x : aL)(w : World)(h : S w 3 A n (b.jobs.map bX))(h' : S w 3 A' m (b.rung.map dN)) :
    Calls prog 93 #[.agg #[.slice A n c,.slice A' m d],.agg #[x.kind,x.job,x.every,x.time,x.client]] w (mJ w (eR b x).1 (eR b x).2):=by
 by_cases hb:cF b=0
 · by_cases hx:aG x=0
   · have e:eR b x=(vR b x,0):=by
      unfold eR;rw[if_neg (by simp[hb]),if_neg (by simp[hx]),KW (fE.1 hb) hx]
     rw[e];exact yJ A A' n c m d b x w h h' (fE.1 hb) hx
   obtain⟨q,hq⟩:∃q,q=aG x:=⟨_,rfl⟩
   have hr:eR b x=(cW.none,q):=by
    unfold eR;rw[if_neg (by simp[hb]),if_pos hx,hq]
   have hd:(q !=0)=true:=by rw[hq];simpa using hx
   have HR:=aH hr;have HB:=aH hb;have HQ:=aH hq;clear hr hb hx hq;go_enter func93,ntmps93;go_wp2_with fail;refine Calls.mono (jY A A' n c m d b.jobs b.rung _ (((h.new _).new _).new _) (((h'.new _).new _).new _)) ?_;rw[show cF ⟨b.jobs,b.rung⟩=0 from HB.out];rintro e w1⟨rfl,hb1⟩;have r0:w1.cell? ⟨w.heap.size+1+1,0,none⟩=some (.slice none 0 0):=aB hb1 (by simp[go_sem]);have fr0:w1.frozen? ⟨w.heap.size+1+1,0,none⟩=false:=aJ hb1 (v:=.slice none 0 0) (by simp[go_sem]) (by simp[go_sem]);have r1:w1.cell? ⟨w.heap.size+1+1,1,none⟩=some (.slice none 0 0):=aB hb1 (by simp[go_sem]);have fr1:w1.frozen? ⟨w.heap.size+1+1,1,none⟩=false:=aJ hb1 (v:=.slice none 0 0) (by simp[go_sem]) (by simp[go_sem]);have hon:aA w w1:=((((Below.refl _ _).alloc (Nat.le_refl _) _).alloc (by simp) _).alloc (by simp;omega) _).trans (hb1.mono (by simp;omega));have e0:w1.cell? ⟨w.heap.size+1,0,none⟩=some (.int .i64 x.kind):=aB hb1 (by simp[go_sem]);have e1:w1.cell? ⟨w.heap.size+1,1,none⟩=some (.int .i64 x.job):=aB hb1 (by simp[go_sem]);have e2:w1.cell? ⟨w.heap.size+1,2,none⟩=some (.int .i64 x.every):=aB hb1 (by simp[go_sem]);have e3:w1.cell? ⟨w.heap.size+1,3,none⟩=some (.int .i64 x.time):=aB hb1 (by simp[go_sem]);have e4:w1.cell? ⟨w.heap.size+1,4,none⟩=some (.int .i64 x.client):=aB hb1 (by simp[go_sem]);clear hb1 h h';go_wp2_with fail;refine Calls.mono (eT x.kind x.job x.every x.time x.client _) ?_;rw[show aG ⟨x.kind,x.job,x.every,x.time,x.client⟩=q from HQ.out.symm]
   rintro e w2⟨rfl,hb⟩;replace fr0:=aJ hb r0 fr0;replace fr1:=aJ hb r1 fr1;replace r0:=aB hb r0;replace r1:=aB hb r1;replace hon:=aA.to hon hb;clear hb e0 e1 e2 e3 e4;go_wp2_with fail;refine bodyPost_ret (v:=.tuple #[.agg #[Nat,Nat],q]) (by simp[results,results93,go_sem,r0,r1]) rfl ?_;rw[HR.out];exact⟨none,0,0,none,0,0,rfl,Sl.nil,Sl.nil,aA.put (aA.put hon (by simp only;omega) _) (by simp only;omega) _,aR.Zp _,aR.Zp _,Nat.le_refl _,Nat.le_refl _⟩
 obtain⟨q,hq⟩:∃q,q=cF b:=⟨_,rfl⟩
 have hr:eR b x=(cW.none,q):=by
  unfold eR;rw[if_pos hb,hq]
 have hd:(q !=0)=true:=by rw[hq];simpa using hb
 have HR:=aH hr;have HQ:=aH hq;clear hr hb hq;go_enter func93,ntmps93;go_wp2_with fail;refine Calls.mono (jY A A' n c m d b.jobs b.rung _ (((h.new _).new _).new _) (((h'.new _).new _).new _)) ?_;rw[show cF ⟨b.jobs,b.rung⟩=q from HQ.out.symm];rintro e w1⟨rfl,hb1⟩;have r0:w1.cell? ⟨w.heap.size+1+1,0,none⟩=some (.slice none 0 0):=aB hb1 (by simp[go_sem]);have fr0:w1.frozen? ⟨w.heap.size+1+1,0,none⟩=false:=aJ hb1 (v:=.slice none 0 0) (by simp[go_sem]) (by simp[go_sem]);have r1:w1.cell? ⟨w.heap.size+1+1,1,none⟩=some (.slice none 0 0):=aB hb1 (by simp[go_sem]);have fr1:w1.frozen? ⟨w.heap.size+1+1,1,none⟩=false:=aJ hb1 (v:=.slice none 0 0) (by simp[go_sem]) (by simp[go_sem]);have hon:aA w w1:=((((Below.refl _ _).alloc (Nat.le_refl _) _).alloc (by simp) _).alloc (by simp;omega) _).trans (hb1.mono (by simp;omega));clear hb1 h h';go_wp2_with fail;refine bodyPost_ret (v:=.tuple #[.agg #[Nat,Nat],q]) (by simp[results,results93,go_sem,r0,r1]) rfl ?_;rw[HR.out];exact⟨none,0,0,none,0,0,rfl,Sl.nil,Sl.nil,aA.put (aA.put hon (by simp only;omega) _) (by simp only;omega) _,aR.Zp _,aR.Zp _,Nat.le_refl _,Nat.le_refl _⟩
end
end Go.Proofs.YtpfkagghooihfaaGreatDoor
