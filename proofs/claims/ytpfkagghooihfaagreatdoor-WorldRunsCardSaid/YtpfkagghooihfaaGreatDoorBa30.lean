/- Part 30. -/
import Derived.Test.YtpfkagghooihfaaGreatDoorBa27
import Derived.Test.YtpfkagghooihfaaGreatDoorBa21
namespace Go.Proofs.YtpfkagghooihfaaGreatDoor
set_option linter.unusedSimpArgs false
set_option linter.unusedVariables false
set_option maxHeartbeats 16000000
set_option maxRecDepth 100000
open Go.Proofs.Tryz
open Go.RowKit
section
attribute [local go_sem ↓] Go.wp_at_zero Go.wp_at_succ
theorem PG:(prog.info? 68).map (·.size)=some 12:=by kernel_rfl
/-! A client is stored whole:one step. -/
def PA (p v:Value):Sem Unit:=Instr.storeAt 68 p v
theorem jH (p v:Value):Instr.storeAt 68 p v=PA p v:=rfl
theorem gP {w : World}{z o : Nat}{a b c d e f g h i j : Int}{A A' : Option Addr}{n m k l : Nat}(ht : w.there z o 12) :
    (PA (.pointer (some ⟨z,o,none⟩)) (.agg #[a,b,c,d,e,f,g,h,i,j,.slice A n k,.slice A' m l])).run prog w =
     .ok () (w.setCells z o [a,b,c,d,e,f,g,h,i,j,.slice A n k,.slice A' m l]) :=
 run_storeAt_mid (P:=prog) w z o 68 _ ht PG (all_oneCell_toArray (List.all_eq_true.1 rfl))
theorem LK {w:World}{cs:Array Value}{t:TypeId}(h:12≤cs.size):(w.alloc (.cells cs t)).there w.heap.size 0 12:=(Bx.Zt w cs t).there (by simpa using h)
theorem KG {w:World}{t:TypeId}:(w.alloc (.cells #[(),(),(),(),(),(),(),(),(),(),Nat,Nat] t)).there w.heap.size 0 12:=LK (by simp)
theorem gF (w:World){t:TypeId}:(w.alloc (.cells #[(),(),(),(),(),(),(),(),(),(),Nat,Nat] t)).there w.heap.size 0 12=True:=eq_true KG
theorem CV.Zu {w : World}{cb k : Nat}{rows : List (List Value)}{c : CV}(B : Rx w cb rows)(hk : ∀x ∈ rows, x.length = 12)(hr : rows[k]? = some (aE c)) :
    w.cell? ⟨cb,k*12,none⟩=some (.int .i64 c.x.epoch)∧w.cell? ⟨cb,k*12+1,none⟩=some (.int .i64 c.x.doing)∧w.cell? ⟨cb,k*12+2,none⟩=some (.int .i64 c.x.e.kind)∧w.cell? ⟨cb,k*12+3,none⟩=some (.int .i64 c.x.e.job)∧w.cell? ⟨cb,k*12+4,none⟩=some (.int .i64 c.x.e.every)∧w.cell? ⟨cb,k*12+5,none⟩=some (.int .i64 c.x.e.time)∧w.cell? ⟨cb,k*12+6,none⟩=some (.int .i64 c.x.e.client)∧w.cell? ⟨cb,k*12+7,none⟩=some (.int .i64 c.x.at_)∧w.cell? ⟨cb,k*12+8,none⟩=some (.int .i64 c.x.link)∧w.cell? ⟨cb,k*12+9,none⟩=some (.int .i64 c.x.played)∧w.cell? ⟨cb,k*12+10,none⟩=some (.slice c.A c.n c.c)∧w.cell? ⟨cb,k*12+11,none⟩=some (.slice c.G c.m c.d) :=
 ⟨Rx.at_ B hk hr 0 rfl,Rx.at_ B hk hr 1 rfl,Rx.at_ B hk hr 2 rfl,Rx.at_ B hk hr 3 rfl,Rx.at_ B hk hr 4 rfl,Rx.at_ B hk hr 5 rfl,Rx.at_ B hk hr 6 rfl,Rx.at_ B hk hr 7 rfl,Rx.at_ B hk hr 8 rfl,Rx.at_ B hk hr 9 rfl,Rx.at_ B hk hr 10 rfl,Rx.at_ B hk hr 11 rfl⟩
theorem WM.storeC {K w0 w:World}{z nb cN cb cC k:Nat}{ns:List NV}{cs:List CV}{tip time:Int}{c v:CV}(h:WM K w0 w z nb cN cb cC ns tip cs time)(hc:cs[k]?=some c)(hi:v.In w)(h1:v.off nb)(h2:v.off cb)(h3:v.off z)(h4:∀b,b<w0.heap.size→v.off b){us:List Value}(hu:us=aE v):WM K w0 (w.setCells cb (k*12) us) z nb cN cb cC ns tip (cs.set k v) time:=by
 subst hu;exact h.nextC ((aK.Zz _ cb).Zw) (Rx.put h.f.cr (aX cs) (dD hc) rfl) (hi.Zw h2) h1 h2 h3 h4
attribute [local go_sem ↓] jH
attribute [local go_sem] gP gF
theorem kE (K w0 : World)(z nb cN cb cC : Nat)(ns : List NV)(tip : Int)(cs : List CV)(time : Int)(kd cl nn jb ep : Int)(y : aL)(w : World)(E : fR w)(H : WM K w0 w z nb cN cb cC ns tip cs time)(hk : kd = 8 ∨ kd = 9 ∨ kd = 12 ∨ kd = 13) :
    Calls prog 68 #[.pointer (some ⟨z,0,none⟩),.agg #[kd,cl,nn,jb,ep,y.kind,y.job,y.every,y.time,y.client]] w (bR K w0 z nb cN cb cC (dV (aY ns tip cs time) ⟨kd,cl,nn,jb,ep,y⟩)):=by
 by_cases hn:nn<0∨3≤nn
 · have hq:dV (aY ns tip cs time) ⟨kd,cl,nn,jb,ep,y⟩=(aY ns tip cs time,5):=by unfold dV;rw[if_pos hn]
   have HQ:=aH hq;rw[hq];clear hq hk;have z0:=H.bx.at_ 0 rfl;have hz:=H.lts;rcases Decidable.em (nn<0)with h1|h1
   · clear hn;go_enter func68,ntmps68;go_upto_region 1 with fail
     go_quiet (fail);go_wp2_with fail;go_ret;exact bR.bad' rfl (by simp) ((H.aw.new _).Zv _)
   have h2:3≤nn:=by omega
   clear hn;go_enter func68,ntmps68;go_upto_region 1 with fail
   go_quiet (fail);go_wp2_with fail;go_ret;exact bR.bad' rfl (by simp) ((H.aw.new _).Zv _)
 obtain⟨i,rfl⟩:∃i:Nat,nn=(i:Int):=⟨nn.toNat,by omega⟩
 have hi:i<3:=by omega
 clear hn;obtain⟨q,hq⟩:∃q,q=dV (aY ns tip cs time) ⟨kd,cl,i,jb,ep,y⟩:=⟨_,rfl⟩
 rw[←hq];obtain⟨v,hv,I,on1,oc,_⟩:=H.f.atN hi;have oz:=H.nz v (List.mem_of_getElem? hv);have FV:=aH (H.fN v (List.mem_of_getElem? hv));unfold dV at hq;dsimp only at hq;rw[if_neg (by omega)]at hq;have hti:((i:Nat):Int).toNat=i:=by omega
 simp only[hti,show(aY ns tip cs time).n=bC ns from rfl,eW hv]at hq;have HQ:=aH hq;have HV:=aH hv;have HK:=aH hk;have hi3:(i:Int)<3:=by omega
 clear hq hv hk;go_enter func68,ntmps68;go_upto_region 1 with fail
 refine aW (v1:=[kd,cl,.int .i64 ↑i,jb,ep,y.kind,y.job,y.every,y.time,y.client]) rfl fun w1 b X=>?_
 replace H:=H.oe b;replace E:=E.oe b;replace I:=I.oe b;generalize hzx:w.heap.size=zx at X;clear hzx b;have x0:=X.at_ 0 rfl;have x2:=X.at_ 2 rfl;have z0:=H.bx.at_ 0 rfl;go_quiet (fail);go_upto_region 3 with fail
 generalize hd:World.drewN w1 _=w2;have od:aA w1 w2:=by rw[←hd];exact(aA.Zz w1).Zv _
 clear hd;replace H:=H.oe od;replace E:=E.oe od;replace X:=X.oe od;replace I:=I.oe od;clear od;clear x0 x2 z0;rcases HK.out with hk|hk|hk|hk
 · subst hk;have hq:=HQ.out;rw[if_neg (by decide)]at hq;replace HQ:=aH hq;clear hq HK;have x0:=X.at_ 0 rfl;have x2:=X.at_ 2 rfl;have x4:=X.at_ 4 rfl;have z0:=H.bx.at_ 0 rfl;have n4:=(NV.Zu H.f.nr (bB ns) (cV HV.out)).2.2.2.2;go_upto_region 7 with fail
   rcases Bool.eq_false_or_eq_true v.x.up with hu|hu
   · have hq:=HQ.out;rw[hu,if_neg (by decide)]at hq;replace HQ:=aH hq;rw[hu]at n4;clear hq hu;have hq:=HQ.out;rw[if_pos rfl]at hq;replace HQ:=aH hq;clear hq;go_quiet (fail);go_upto_region 10 with fail
     generalize hd:World.drewN w2 _=w3;have od:aA w2 w3:=by rw[←hd];exact(aA.Zz w2).Zv _
     clear hd;replace H:=H.oe od;replace E:=E.oe od;replace X:=X.oe od;replace I:=I.oe od;replace x2:=aB od x2;replace x4:=aB od x4;replace z0:=aB od z0;clear od
     go_region_law (first
      | (go_simp;go_at_call 106;refine Calls.mono (nC v ⟨2,0,ep,bP⟩ _ (E.oe (by with_reducible(first|exact aA.Zz _|exact(aA.Zz _).draw|exact((aA.Zz _).new _).draw|exact((aA.Zz _).draw).new _))) nb i (ns.map bW) (Bx.oe H.f.nr (by with_reducible(first|exact aA.Zz _|exact(aA.Zz _).draw|exact((aA.Zz _).new _).draw|exact((aA.Zz _).draw).new _))) (bB ns) (cV HV.out) (I.oe (by with_reducible(first|exact aA.Zz _|exact(aA.Zz _).draw|exact((aA.Zz _).new _).draw|exact((aA.Zz _).draw).new _))) on1) ?_;unfold lQ;rintro e w4⟨rfl,t,hok⟩;have t':aK w3 w4 nb:=aK.to (aK.of (by with_reducible(first|exact aA.Zz _|exact(aA.Zz _).draw|exact((aA.Zz _).new _).draw|exact((aA.Zz _).draw).new _)) nb) t H.lts.2.1))
     all_goals
      have hz3w:=H.Zm.size;have hz3:=H.lts;have onw:=H.aw.upN t' H.f.hn;have hq:=HQ.out;go_wp2_with fail;refine bodyPost_ret (v:=.int .i64 (cT v.x ⟨2,0,ep,bP⟩).2) (by simp[results,results68,go_sem]) rfl ?_;refine⟨by rw[hq],onw,fun h0=>?_⟩;obtain⟨v',hx,hi',hr,hoff⟩:=hok (by have:=h0;rw[hq]at this;exact this);have hlt:∀b,b<w3.heap.size→v.off b→v'.off b:=fun b hb=>hoff b (by first|exact hb| (simp;omega))
      refine⟨ns.set i v',cs,?_,?_,?_⟩
      · rw[hq];exact H.nextN t' hr hi' (hlt nb hz3.2.1 on1) (hlt cb hz3.2.2 oc) (hlt z hz3.1 oz) (fun b hb=>hlt b (Nat.lt_of_lt_of_le hb hz3w) (FV.out b hb))
      · rw[hq];simp[setN,aY,bC,List.map_set,hx]
      rw[hq];rfl
   have hq:=HQ.out;rw[hu,if_pos rfl]at hq;have HQ2:=aH hq;rw[hu]at n4;clear hq HQ hu;go_quiet (fail);go_wp2_with fail;go_ret;exact bR.bad' (by rw[HQ2.out]) (by rw[HQ2.out];simp) (H.aw.Zv _)
 · subst hk;have hq:=HQ.out;rw[if_neg (by decide)]at hq;replace HQ:=aH hq;clear hq HK;have x0:=X.at_ 0 rfl;have x2:=X.at_ 2 rfl;have x4:=X.at_ 4 rfl;have z0:=H.bx.at_ 0 rfl;have n4:=(NV.Zu H.f.nr (bB ns) (cV HV.out)).2.2.2.2;go_upto_region 7 with fail
   rcases Bool.eq_false_or_eq_true v.x.up with hu|hu
   · have hq:=HQ.out;rw[hu,if_neg (by decide)]at hq;replace HQ:=aH hq;rw[hu]at n4;clear hq hu;have hq:=HQ.out;rw[if_neg (by decide)]at hq;replace HQ:=aH hq;clear hq;go_quiet (fail);go_upto_region 11 with fail
     generalize hd:World.drewN w2 _=w3;have od:aA w2 w3:=by rw[←hd];exact(aA.Zz w2).Zv _
     clear hd;replace H:=H.oe od;replace E:=E.oe od;replace X:=X.oe od;replace I:=I.oe od;replace x2:=aB od x2;replace z0:=aB od z0;replace x0:=aB od x0;clear od;clear x0 x4 n4;have x1:=X.at_ 1 rfl;have z2:=H.bx.at_ 2 rfl;by_cases hc:cl<0∨3≤cl
     · have hq:=HQ.out;rw[if_pos hc]at hq;have HQ2:=aH hq;clear hq HQ;rcases Decidable.em (cl<0)with h1|h1
       · clear hc;go_quiet (fail);go_wp2_with fail;go_ret;exact bR.bad' (by rw[HQ2.out]) (by rw[HQ2.out];simp) (H.aw.Zv _)
       have h2:3≤cl:=by omega
       clear hc;go_quiet (fail);go_wp2_with fail;go_ret;exact bR.bad' (by rw[HQ2.out]) (by rw[HQ2.out];simp) (H.aw.Zv _)
     obtain⟨m,rfl⟩:∃m:Nat,cl=(m:Int):=⟨cl.toNat,by omega⟩
     have hm:m<3:=by omega
     have hm3:(m:Int)<3:=by omega
     obtain⟨c,hcv,J,on2,oc2,_⟩:=H.f.atC hm;have oz2:=H.cz c (List.mem_of_getElem? hcv);have hq:=HQ.out;rw[if_neg hc]at hq;have htm:((m:Nat):Int).toNat=m:=by omega
     simp only[htm,show(aY ns tip cs time).c=bL cs from rfl,cU hcv]at hq;replace HQ:=aH hq;have HCV:=aH hcv;clear hq hc hcv;go_quiet (fail);go_upto_region 13 with fail
     generalize hd:World.drewN w3 _=w4;have od:aA w3 w4:=by rw[←hd];exact(aA.Zz w3).Zv _
     clear hd;replace H:=H.oe od;replace E:=E.oe od;replace X:=X.oe od;replace I:=I.oe od;replace J:=J.oe od;clear od;clear x1 x2 z0 z2;obtain⟨r,hr⟩:∃r,r=fP c.x v.x.u.ep:=⟨_,rfl⟩
     have hq:=HQ.out;unfold gK at hq;rw[←hr]at hq;replace HQ:=aH hq;have HR:=aH hr;clear hq hr;have x1:=X.at_ 1 rfl;have x2:=X.at_ 2 rfl;have z0:=H.bx.at_ 0 rfl;have z2:=H.bx.at_ 2 rfl;have n0:=(NV.Zu H.f.nr (bB ns) (cV HV.out)).1;obtain⟨c0,c1,c2,c3,c4,c5,c6,c7,c8,c9,c10,c11⟩:=CV.Zu H.f.cr (aX cs) (dD HCV.out);have hz4w:=H.Zm.size;have hz4:=H.lts;have hxl:=X.lt;go_cut [5,6] (fun s5 s6 wx=>∃ (p:Nat) (A1:Option Addr) (n1 k1:Nat) (A2:Option Addr) (n2 k2:Nat),s5=.pointer (some ⟨p,0,none⟩)∧s6=.int .i64 r.2∧Bx wx p [r.1.epoch,r.1.doing,r.1.e.kind,r.1.e.job,r.1.e.every,r.1.e.time,r.1.e.client,r.1.at_,r.1.link,r.1.played,.slice A1 n1 k1,.slice A2 n2 k2]∧S wx 3 A1 n1 (r.1.b.jobs.map bX)∧S wx 3 A2 n2 (r.1.b.rung.map dN)∧n1≤k1∧n2≤k2∧aR w4.heap.size A1∧aR w4.heap.size A2∧aA w4 wx)
     case first =>
      have hz0:∀w',aA w4 w'→w'.cell? ⟨z,0,none⟩=some (.slice (some ⟨nb,0,none⟩) 3 cN):=fun w' h=>aB h z0;have hz2:∀w',aA w4 w'→w'.cell? ⟨z,2,none⟩=some (.slice (some ⟨cb,0,none⟩) 3 cC):=fun w' h=>aB h z2;have hx1:∀w',aA w4 w'→w'.cell? ⟨zx,1,none⟩=some (.int .i64 m):=fun w' h=>aB h x1;have hx2:∀w',aA w4 w'→w'.cell? ⟨zx,2,none⟩=some (.int .i64 i):=fun w' h=>aB h x2;have hn0:∀w',aA w4 w'→w'.cell? ⟨nb,i*5,none⟩=some (.int .i64 v.x.u.ep):=fun w' h=>aB h n0;have hc0:∀w',aA w4 w'→w'.cell? ⟨cb,m*12,none⟩=some (.int .i64 c.x.epoch):=fun w' h=>aB h c0;have hc1:∀w',aA w4 w'→w'.cell? ⟨cb,m*12+1,none⟩=some (.int .i64 c.x.doing):=fun w' h=>aB h c1;have hc2:∀w',aA w4 w'→w'.cell? ⟨cb,m*12+2,none⟩=some (.int .i64 c.x.e.kind):=fun w' h=>aB h c2;have hc3:∀w',aA w4 w'→w'.cell? ⟨cb,m*12+3,none⟩=some (.int .i64 c.x.e.job):=fun w' h=>aB h c3;have hc4:∀w',aA w4 w'→w'.cell? ⟨cb,m*12+4,none⟩=some (.int .i64 c.x.e.every):=fun w' h=>aB h c4;have hc5:∀w',aA w4 w'→w'.cell? ⟨cb,m*12+5,none⟩=some (.int .i64 c.x.e.time):=fun w' h=>aB h c5;have hc6:∀w',aA w4 w'→w'.cell? ⟨cb,m*12+6,none⟩=some (.int .i64 c.x.e.client):=fun w' h=>aB h c6;have hc7:∀w',aA w4 w'→w'.cell? ⟨cb,m*12+7,none⟩=some (.int .i64 c.x.at_):=fun w' h=>aB h c7;have hc8:∀w',aA w4 w'→w'.cell? ⟨cb,m*12+8,none⟩=some (.int .i64 c.x.link):=fun w' h=>aB h c8;have hc9:∀w',aA w4 w'→w'.cell? ⟨cb,m*12+9,none⟩=some (.int .i64 c.x.played):=fun w' h=>aB h c9;have hc10:∀w',aA w4 w'→w'.cell? ⟨cb,m*12+10,none⟩=some (.slice c.A c.n c.c):=fun w' h=>aB h c10;have hc11:∀w',aA w4 w'→w'.cell? ⟨cb,m*12+11,none⟩=some (.slice c.G c.m c.d):=fun w' h=>aB h c11
      clear c0 c1 c2 c3 c4 c5 c6 c7 c8 c9 c10 c11 n0 x1 x2 z0 z2;obtain⟨zz,hzz⟩:∃zz,w4.heap.size=zz:=⟨_,rfl⟩
      go_region_held3 (fun w'=>aA w4 w')
       (((with_reducible(repeat(first|exact aA.Zz _|exact b|refine aA.draw ?_|refine aA.new ?_ _|refine aA.Zw (Nat.le_of_eq hzz) ?_|refine aA.Zw (aA.sz b) ?_)));done))
       (first
       | (go_at_call 107;refine Calls.mono (yO c v.x.u.ep _ (J.oe (by with_reducible(first|exact aA.Zz _|exact(aA.Zz _).draw|exact((aA.Zz _).new _).draw|exact((aA.Zz _).draw).new _)))) ?_;rw[←HR.out];rintro e w5 hp;obtain⟨A1,n1,k1,A2,n2,k2,rfl,s1,s2,ob,hk1,hk2,f1,f2⟩:=hp.cl;have b:aA w4 w5:=aA.to (by with_reducible(first|exact aA.Zz _|exact(aA.Zz _).draw|exact((aA.Zz _).new _).draw|exact((aA.Zz _).draw).new _)) ob;have f1':aR w4.heap.size A1:=(fun a e=>Nat.le_trans (aA.sz (by with_reducible(first|exact aA.Zz _|exact(aA.Zz _).draw|exact((aA.Zz _).new _).draw|exact((aA.Zz _).draw).new _))) (f1 a e));have f2':aR w4.heap.size A2:=(fun a e=>Nat.le_trans (aA.sz (by with_reducible(first|exact aA.Zz _|exact(aA.Zz _).draw|exact((aA.Zz _).new _).draw|exact((aA.Zz _).draw).new _))) (f2 a e));have P6:Bx ((w5.alloc (.cells #[(),(),(),(),(),(),(),(),(),(),Nat,Nat] 68)).setCells w5.heap.size 0 [r.1.epoch,r.1.doing,r.1.e.kind,r.1.e.job,r.1.e.every,r.1.e.time,r.1.e.client,r.1.at_,r.1.link,r.1.played,.slice A1 n1 k1,.slice A2 n2 k2]) w5.heap.size [r.1.epoch,r.1.doing,r.1.e.kind,r.1.e.job,r.1.e.every,r.1.e.time,r.1.e.client,r.1.at_,r.1.link,r.1.played,.slice A1 n1 k1,.slice A2 n2 k2]:=(Bx.Zt w5 #[(),(),(),(),(),(),(),(),(),(),Nat,Nat] 68).put rfl;have s16:=dM (w:=w5) (s1.Zx (Nat.le_refl _)) (vs:=[r.1.epoch,r.1.doing,r.1.e.kind,r.1.e.job,r.1.e.every,r.1.e.time,r.1.e.client,r.1.at_,r.1.link,r.1.played,.slice A1 n1 k1,.slice A2 n2 k2]) (o:=0) (s1.new (.cells #[(),(),(),(),(),(),(),(),(),(),Nat,Nat] 68));have s26:=dM (w:=w5) (s2.Zx (Nat.le_refl _)) (vs:=[r.1.epoch,r.1.doing,r.1.e.kind,r.1.e.job,r.1.e.every,r.1.e.time,r.1.e.client,r.1.at_,r.1.link,r.1.played,.slice A1 n1 k1,.slice A2 n2 k2]) (o:=0) (s2.new (.cells #[(),(),(),(),(),(),(),(),(),(),Nat,Nat] 68));have on6:aA w4 ((w5.alloc (.cells #[(),(),(),(),(),(),(),(),(),(),Nat,Nat] 68)).setCells w5.heap.size 0 [r.1.epoch,r.1.doing,r.1.e.kind,r.1.e.job,r.1.e.every,r.1.e.time,r.1.e.client,r.1.at_,r.1.link,r.1.played,.slice A1 n1 k1,.slice A2 n2 k2]):=aA.Zw (aA.sz b) (b.new _);(first| (have Z5:Bx w5 zz [(),(),(),(),(),(),(),(),(),(),Nat,Nat]:=hzz▸Bx.oe (Bx.draw (Bx.Zt w4 #[(),(),(),(),(),(),(),(),(),(),Nat,Nat] 68)) ob;have hst:=Z5.there (n:=12) (by simp);have oz:bQ n1 zz A1:=f1.Zx (by simp;omega);have oz':bQ n2 zz A2:=f2.Zx (by simp;omega);have P5:Bx (w5.setCells zz 0 [r.1.epoch,r.1.doing,r.1.e.kind,r.1.e.job,r.1.e.every,r.1.e.time,r.1.e.client,r.1.at_,r.1.link,r.1.played,.slice A1 n1 k1,.slice A2 n2 k2]) zz [r.1.epoch,r.1.doing,r.1.e.kind,r.1.e.job,r.1.e.every,r.1.e.time,r.1.e.client,r.1.at_,r.1.link,r.1.played,.slice A1 n1 k1,.slice A2 n2 k2]:=Z5.put rfl;have s15:=dM (w:=w5) oz (vs:=[r.1.epoch,r.1.doing,r.1.e.kind,r.1.e.job,r.1.e.every,r.1.e.time,r.1.e.client,r.1.at_,r.1.link,r.1.played,.slice A1 n1 k1,.slice A2 n2 k2]) (o:=0) s1;have s25:=dM (w:=w5) oz' (vs:=[r.1.epoch,r.1.doing,r.1.e.kind,r.1.e.job,r.1.e.every,r.1.e.time,r.1.e.client,r.1.at_,r.1.link,r.1.played,.slice A1 n1 k1,.slice A2 n2 k2]) (o:=0) s2;have on5:aA w4 (w5.setCells zz 0 [r.1.epoch,r.1.doing,r.1.e.kind,r.1.e.job,r.1.e.every,r.1.e.time,r.1.e.client,r.1.at_,r.1.link,r.1.played,.slice A1 n1 k1,.slice A2 n2 k2]):=aA.Zw (Nat.le_of_eq hzz) b)|skip))
       |fail)
      all_goals
       go_wp2_with fail;go_meet
       first
        |with_reducible exact⟨_,A1,n1,k1,A2,n2,k2,rfl,rfl,P6,s16,s26,hk1,hk2,f1',f2',on6⟩
        |with_reducible exact⟨_,A1,n1,k1,A2,n2,k2,rfl,rfl,P5,s15,s25,hk1,hk2,f1',f2',on5⟩
     case rest =>
      obtain⟨p,A1,n1,k1,A2,n2,k2,rfl,rfl,V,s1,s2,hk1,hk2,f1,f2,b⟩:=hcut;clear c0 c1 c2 c3 c4 c5 c6 c7 c8 c9 c10 c11 n0 x1 x2 z0 z2;replace H:=H.oe b;replace E:=E.oe b;replace X:=X.oe b;clear b;generalize wc=w5 at *;by_cases h1:r.2=0
      · have hq:=HQ.out;rw[if_neg (by simp[h1])]at hq;have HQ2:=aH hq;rw[h1];clear hq HQ h1;go_upto_region 15 with fail
        have x1:=X.at_ 1 rfl;have z2:=H.bx.at_ 2 rfl;obtain⟨v0,v1,v2,v3,v4,v5,v6,v7,v8,v9,v10,v11⟩:=V.p12;have hzlw:=H.Zm.size;have hzl:=H.lts;have hvl:=V.lt;have HB:=aH H.f.cr;have hlen:m*12+12≤(cs.map aE).flatten.length:=by rw[aN (aX cs),List.length_map,H.f.cl];omega
        have hth:w5.there cb (m*12) 12:=Bx.thereM H.f.cr hlen;go_region
        all_goals
         go_wp2_with fail;refine bodyPost_ret (v:=.int .i64 0) (by simp[results,results68,go_sem]) rfl ?_;have hq:=HQ2.out;have H1:=H.oe ((aA.Zz w5).draw);have H2:=H1.storeC HCV.out (v:=⟨r.1,A1,n1,k1,A2,n2,k2⟩) ⟨s1.draw,s2.draw,hk1,hk2⟩ ⟨f1.Zx hz4.2.1,f2.Zx hz4.2.1⟩ ⟨f1.Zx hz4.2.2,f2.Zx hz4.2.2⟩ ⟨f1.Zx hz4.1,f2.Zx hz4.1⟩ (fun b hb=>⟨f1.Zx (Nat.lt_of_lt_of_le hb hz4w),f2.Zx (Nat.lt_of_lt_of_le hb hz4w)⟩) (us:=[r.1.epoch,r.1.doing,r.1.e.kind,r.1.e.job,r.1.e.every,r.1.e.time,r.1.e.client,r.1.at_,r.1.link,r.1.played,.slice A1 n1 k1,.slice A2 n2 k2]) rfl;have hq3:q=(aY ns tip (cs.set m ⟨r.1,A1,n1,k1,A2,n2,k2⟩) time,0):=hq.trans (by rw[←kK]);exact bR.ok H2 hq3
      have hq:=HQ.out;rw[if_pos h1]at hq;have HQ2:=aH hq;have hd:(r.2 !=0)=true:=by simpa using h1
      have hd2:(r.2 ==0)=false:=by simpa using h1
      have h2':q.2≠0:=by rw[hq];exact h1
      clear hq HQ h1;go_wp2_with fail;go_ret;exact bR.bad' (by rw[HQ2.out]) h2' H.aw
   have hq:=HQ.out;rw[hu,if_pos rfl]at hq;have HQ2:=aH hq;rw[hu]at n4;clear hq HQ hu;go_quiet (fail);go_wp2_with fail;go_ret;exact bR.bad' (by rw[HQ2.out]) (by rw[HQ2.out];simp) (H.aw.Zv _)
 · subst hk;have hq:=HQ.out;rw[if_pos (by decide)]at hq;replace HQ:=aH hq;clear hq HK;obtain⟨x0,x1,x2,x3,x4,x5,x6,x7,x8,x9⟩:=X.p10;go_wp2_with fail;refine Calls.mono (sN K w0 z nb cN cb cC ns tip cs time ⟨12,cl,i,jb,ep,y⟩ i _ E H hi rfl (by simp)) ?_;rw[←HQ.out];rintro e w3⟨rfl,h1,h2⟩;go_wp2_with fail;go_ret;exact⟨rfl,h1,h2⟩
 subst hk;have hq:=HQ.out;rw[if_pos (by decide)]at hq;replace HQ:=aH hq;clear hq HK;obtain⟨x0,x1,x2,x3,x4,x5,x6,x7,x8,x9⟩:=X.p10;go_wp2_with fail;refine Calls.mono (sN K w0 z nb cN cb cC ns tip cs time ⟨13,cl,i,jb,ep,y⟩ i _ E H hi rfl (by simp)) ?_;rw[←HQ.out];rintro e w3⟨rfl,h1,h2⟩;go_wp2_with fail;go_ret;exact⟨rfl,h1,h2⟩
end
section
def nF (w:World)(v:CV)(q:eB×Int)(e:Ending)(w':World):Prop :=
 ∃u:CV,u.x=q.1∧e=.returned (.tuple #[.agg (aE u).toArray,q.2])∧u.In w'∧aA w w'∧∀z,z<w.heap.size→v.off z→u.off z
theorem AT {fn : Func}{a : Act}{w w1 : World}{v u : CV}{q : eB×Int}{zq i j : Nat}{vs : List Value}{e : Int}(hr : fn.results = #[.cell i 68, .tmp j])(h1 : a.tmps[i]? = some (.pointer (some ⟨zq, 0, none⟩)))(h2 : a.tmps[j]? = some (.int .i64 e))(hd : a.defers = [])
    (Q:Bx w1 zq vs)(hl:vs.length=12)(I:u.In w1)(f:u.off zq)(on:aA w w1)(hz:w.heap.size≤zq)(hq:q=(u.x,e))(nr:∀z,z<w.heap.size→v.off z→u.off z):bodyPost prog fn (nF w v q) .ret a (w1.setCells zq 0 (aE u)):=by
 subst hq;have B:=Q.put (us:=aE u) (by rw[hl];rfl);exact bodyPost_ret (LE hr h1 h2 B) hd ⟨u,rfl,rfl,I.Zw f,cJ hz on,nr⟩
section
variable {fn:Func}{a:Act}{w w1:World}{v:CV}{q:eB×Int}{zq i j:Nat}{vs:List Value}{e:Int}
theorem lZ (hr : fn.results = #[.cell i 68, .tmp j])(h1 : a.tmps[i]? = some (.pointer (some ⟨zq, 0, none⟩)))(h2 : a.tmps[j]? = some (.int .i64 e))(hd : a.defers = [])
    (Q:Bx w1 zq vs)(hl:vs.length=12)(on:aA w w1)(hz:w.heap.size≤zq)(hq:q=(cS,e)):bodyPost prog fn (nF w v q) .ret a (w1.setCells zq 0 (aE zV)) :=
 AT (u:=zV) hr h1 h2 hd Q hl (OM _) (FP _) on hz hq fun _ _ _=>FP _
theorem qE {x : eB}(hr : fn.results = #[.cell i 68, .tmp j])(h1 : a.tmps[i]? = some (.pointer (some ⟨zq, 0, none⟩)))(h2 : a.tmps[j]? = some (.int .i64 e))(hd : a.defers = [])
    (Q:Bx w1 zq vs)(hl:vs.length=12)(I:v.In w1)(F:Hid (∀z,w.heap.size≤z→v.off z))(on:aA w w1)(hz:w.heap.size≤zq)(hq:q=(x,e))(hx:x.b=v.x.b:=by rfl):bodyPost prog fn (nF w v q) .ret a (w1.setCells zq 0 (aE ⟨x,v.A,v.n,v.c,v.G,v.m,v.d⟩)) :=
 AT (u:=⟨x,v.A,v.n,v.c,v.G,v.m,v.d⟩) hr h1 h2 hd Q hl ⟨by rw[hx];exact I.1,by rw[hx];exact I.2,I.3,I.4⟩ ⟨(F.out zq hz).1,(F.out zq hz).2⟩ on hz hq fun z _ h=>⟨h.1,h.2⟩
end
theorem yT {w:World}{v:CV}(I:v.In w):Hid (∀z,w.heap.size≤z→v.off z):=aH fun z hz=>I.Zn hz
theorem JV {c:eB}{me job t:Int}{i:Nat}{x:dB}(hx:c.b.jobs[i]?=some x)(hp:decide (x.id=job)=true)(hlt:∀j y,j<i→c.b.jobs[j]?=some y→decide (y.id=job)=false):nX c me job t=if x.next≤t then fI c ⟨3,job,0,x.next,me⟩else(cS,5):=by
 have h:c.b.jobs.find? (fun j=>decide (j.id=job))=some x:=by
  obtain⟨hi,rfl⟩:=List.getElem?_eq_some_iff.1 hx;rw[List.find?_eq_some_iff_getElem];exact⟨hp,i,hi,rfl,fun j hj=>by simpa using hlt j _ hj (List.getElem?_eq_getElem (by omega))⟩
 unfold nX;rw[h]
theorem KB {c:eB}{me job t:Int}(h:∀ (j:Nat) y,c.b.jobs[j]?=some y→decide (y.id=job)=false):nX c me job t=(cS,5):=by
 have h:c.b.jobs.find? (fun j=>decide (j.id=job))=none:=by
  rw[List.find?_eq_none];intro x hx;obtain⟨i,hi,rfl⟩:=List.getElem_of_mem hx;simpa using h i _ (List.getElem?_eq_getElem hi)
 unfold nX;rw[h]
theorem MJ {w:World}{z o:Nat}{u:CV}(ht:w.there z o 12):(PA (.pointer (some ⟨z,o,none⟩)) (.agg (aE u).toArray)).run prog w=.ok () (w.setCells z o (aE u)):=gP ht
theorem KR {v:CV}{w:World}(I:v.In w):Calls prog 24 #[.agg (aE v).toArray] w fun e w'=>e=.returned (.int .i64 (aP v.x))∧aA w w' :=
 pG _ _ _ _ _ _ _ _ _ _ _ _ _ _ I.jobs I.rung
end
end Go.Proofs.YtpfkagghooihfaaGreatDoor
