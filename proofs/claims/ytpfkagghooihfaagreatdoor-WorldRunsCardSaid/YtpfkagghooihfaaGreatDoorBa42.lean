/- Part 42. -/
import Derived.Test.YtpfkagghooihfaaGreatDoorBa39
namespace Go.Proofs.YtpfkagghooihfaaGreatDoor
set_option linter.unusedSimpArgs false
set_option linter.unusedVariables false
set_option maxHeartbeats 8000000
set_option maxRecDepth 100000
open Go.RowKit
section
attribute [local go_sem ↓] Go.wp_at_zero Go.wp_at_succ
theorem xA (l:List qY):∀r∈l.map dY,r.length=10:=fun r hr=>by obtain⟨v,_,rfl⟩:=List.mem_map.1 hr;rfl
theorem LH (l:List qY):∀r∈l.map dY,∀u∈r,u.oneCell'=true:=fun r hr u hu=>by
 obtain⟨v,_,rfl⟩:=List.mem_map.1 hr
 simp[dY]at hu
 rcases hu with rfl|rfl|rfl|rfl|rfl|rfl|rfl|rfl|rfl|rfl<;>rfl
theorem BG (w:World)(E:fR w):Calls Tryz.prog 7 #[] w fun e w'=>e=.returned (.bool true)∧aA w w':=by
 go_enter Tryz.func7,Tryz.ntmps7
 go_wp2_with fail
 refine Calls.mono (lI 3 0 _) ?_
 rintro e w1⟨rfl,b1⟩
 go_wp2_with fail
 refine Calls.mono (lI 4 0 _) ?_
 rintro e w2⟨rfl,b2⟩
 go_wp2_with fail
 refine Calls.mono (lI 4 0 _) ?_
 rintro e w3⟨rfl,b3⟩
 go_wp2_with fail
 refine Calls.mono (lI 4 0 _) ?_
 rintro e w4⟨rfl,b4⟩
 go_wp2_with fail
 refine Calls.mono (lI 7 0 _) ?_
 rintro e w5⟨rfl,b5⟩
 have on:=(((b1.to b2).to b3).to b4).to b5
 clear b1 b2 b3 b4 b5
 go_upto_region 3 with fail
 have oA:=(aA.Zz w5).new (Obj.cells #[.int .i64 3,.int .i64 0,.int .i64 0,.int .i64 0,.int .i64 0,.int .i64 0,.int .i64 0,.int .i64 0,.int .i64 0,.int .i64 0,.int .i64 4,.int .i64 0,.int .i64 0,.int .i64 0,.int .i64 0,.int .i64 0,.int .i64 0,.int .i64 0,.int .i64 0,.int .i64 0,.int .i64 4,.int .i64 0,.int .i64 0,.int .i64 0,.int .i64 0,.int .i64 0,.int .i64 0,.int .i64 0,.int .i64 0,.int .i64 0,.int .i64 4,.int .i64 0,.int .i64 0,.int .i64 0,.int .i64 0,.int .i64 0,.int .i64 0,.int .i64 0,.int .i64 0,.int .i64 0,.int .i64 7,.int .i64 0,.int .i64 0,.int .i64 0,.int .i64 0,.int .i64 0,.int .i64 0,.int .i64 0,.int .i64 0,.int .i64 0] 29)
 have SA:S (w5.alloc (Obj.cells #[.int .i64 3,.int .i64 0,.int .i64 0,.int .i64 0,.int .i64 0,.int .i64 0,.int .i64 0,.int .i64 0,.int .i64 0,.int .i64 0,.int .i64 4,.int .i64 0,.int .i64 0,.int .i64 0,.int .i64 0,.int .i64 0,.int .i64 0,.int .i64 0,.int .i64 0,.int .i64 0,.int .i64 4,.int .i64 0,.int .i64 0,.int .i64 0,.int .i64 0,.int .i64 0,.int .i64 0,.int .i64 0,.int .i64 0,.int .i64 0,.int .i64 4,.int .i64 0,.int .i64 0,.int .i64 0,.int .i64 0,.int .i64 0,.int .i64 0,.int .i64 0,.int .i64 0,.int .i64 0,.int .i64 7,.int .i64 0,.int .i64 0,.int .i64 0,.int .i64 0,.int .i64 0,.int .i64 0,.int .i64 0,.int .i64 0,.int .i64 0] 29)) 10 (some ⟨w5.heap.size,0,none⟩) 5 (KU.map dY):=by
  have:=Sl.block (w:=(w5.alloc (Obj.cells #[.int .i64 3,.int .i64 0,.int .i64 0,.int .i64 0,.int .i64 0,.int .i64 0,.int .i64 0,.int .i64 0,.int .i64 0,.int .i64 0,.int .i64 4,.int .i64 0,.int .i64 0,.int .i64 0,.int .i64 0,.int .i64 0,.int .i64 0,.int .i64 0,.int .i64 0,.int .i64 0,.int .i64 4,.int .i64 0,.int .i64 0,.int .i64 0,.int .i64 0,.int .i64 0,.int .i64 0,.int .i64 0,.int .i64 0,.int .i64 0,.int .i64 4,.int .i64 0,.int .i64 0,.int .i64 0,.int .i64 0,.int .i64 0,.int .i64 0,.int .i64 0,.int .i64 0,.int .i64 0,.int .i64 7,.int .i64 0,.int .i64 0,.int .i64 0,.int .i64 0,.int .i64 0,.int .i64 0,.int .i64 0,.int .i64 0,.int .i64 0] 29))) (k:=10) (KU.map dY) (heap_alloc_new w5 _) (xA _) rfl
  exact this
 replace on:=on.to oA
 clear oA
 try change Code.wp _ _ _ _ (w5.alloc (Obj.cells #[.int .i64 3,.int .i64 0,.int .i64 0,.int .i64 0,.int .i64 0,.int .i64 0,.int .i64 0,.int .i64 0,.int .i64 0,.int .i64 0,.int .i64 4,.int .i64 0,.int .i64 0,.int .i64 0,.int .i64 0,.int .i64 0,.int .i64 0,.int .i64 0,.int .i64 0,.int .i64 0,.int .i64 4,.int .i64 0,.int .i64 0,.int .i64 0,.int .i64 0,.int .i64 0,.int .i64 0,.int .i64 0,.int .i64 0,.int .i64 0,.int .i64 4,.int .i64 0,.int .i64 0,.int .i64 0,.int .i64 0,.int .i64 0,.int .i64 0,.int .i64 0,.int .i64 0,.int .i64 0,.int .i64 7,.int .i64 0,.int .i64 0,.int .i64 0,.int .i64 0,.int .i64 0,.int .i64 0,.int .i64 0,.int .i64 0,.int .i64 0] 29))
 generalize(w5.alloc (Obj.cells #[.int .i64 3,.int .i64 0,.int .i64 0,.int .i64 0,.int .i64 0,.int .i64 0,.int .i64 0,.int .i64 0,.int .i64 0,.int .i64 0,.int .i64 4,.int .i64 0,.int .i64 0,.int .i64 0,.int .i64 0,.int .i64 0,.int .i64 0,.int .i64 0,.int .i64 0,.int .i64 0,.int .i64 4,.int .i64 0,.int .i64 0,.int .i64 0,.int .i64 0,.int .i64 0,.int .i64 0,.int .i64 0,.int .i64 0,.int .i64 0,.int .i64 4,.int .i64 0,.int .i64 0,.int .i64 0,.int .i64 0,.int .i64 0,.int .i64 0,.int .i64 0,.int .i64 0,.int .i64 0,.int .i64 7,.int .i64 0,.int .i64 0,.int .i64 0,.int .i64 0,.int .i64 0,.int .i64 0,.int .i64 0,.int .i64 0,.int .i64 0] 29))=w6 at *
 generalize w5.heap.size=zA at *
 go_wp2_with fail
 refine Calls.mono (vM _) ?_
 rintro e w7⟨A,n,C,m,ns,cs,rfl,R,hW,b7⟩
 go_wp2_with fail
 refine Calls.mono (JS 2 5 3 _) ?_
 rintro e w8⟨rfl,b8⟩
 replace b8:aA w7 w8:=b8
 replace SA:=(SA.oe b7).oe b8;replace R:=R.oe b8;replace on:=(on.to b7).to b8
 have oX:=(aA.Zz w8).new (Obj.cells #[.int .i64 1,.int .i64 0,.int .i64 0,.int .i64 0,.int .i64 0,.int .i64 1,.int .i64 2,.int .i64 5,.int .i64 3,.int .i64 0] 29)
 have oB:=(aA.Zz (w8.alloc (Obj.cells #[.int .i64 1,.int .i64 0,.int .i64 0,.int .i64 0,.int .i64 0,.int .i64 1,.int .i64 2,.int .i64 5,.int .i64 3,.int .i64 0] 29))).new (Obj.cells #[.int .i64 2,.int .i64 0,.int .i64 0,.int .i64 2,.int .i64 0,.int .i64 0,.int .i64 0,.int .i64 0,.int .i64 0,.int .i64 0,.int .i64 11,.int .i64 0,.int .i64 4,.int .i64 0,.int .i64 0,.int .i64 0,.int .i64 0,.int .i64 0,.int .i64 0,.int .i64 0,.int .i64 2,.int .i64 0,.int .i64 0,.int .i64 2,.int .i64 0,.int .i64 0,.int .i64 0,.int .i64 0,.int .i64 0,.int .i64 0] 29)
 have oS:=(aA.Zz ((w8.alloc (Obj.cells #[.int .i64 1,.int .i64 0,.int .i64 0,.int .i64 0,.int .i64 0,.int .i64 1,.int .i64 2,.int .i64 5,.int .i64 3,.int .i64 0] 29)).alloc (Obj.cells #[.int .i64 2,.int .i64 0,.int .i64 0,.int .i64 2,.int .i64 0,.int .i64 0,.int .i64 0,.int .i64 0,.int .i64 0,.int .i64 0,.int .i64 11,.int .i64 0,.int .i64 4,.int .i64 0,.int .i64 0,.int .i64 0,.int .i64 0,.int .i64 0,.int .i64 0,.int .i64 0,.int .i64 2,.int .i64 0,.int .i64 0,.int .i64 2,.int .i64 0,.int .i64 0,.int .i64 0,.int .i64 0,.int .i64 0,.int .i64 0] 29))).new (Obj.cells #[.slice (some ⟨w8.heap.size,0,none⟩) 1 1,.slice (some ⟨zA,0,none⟩) 5 5,.slice (some ⟨(w8.heap.size+1),0,none⟩) 3 3,.slice (some ⟨zA,0,none⟩) 5 5] 38)
 have SX:S (w8.alloc (Obj.cells #[.int .i64 1,.int .i64 0,.int .i64 0,.int .i64 0,.int .i64 0,.int .i64 1,.int .i64 2,.int .i64 5,.int .i64 3,.int .i64 0] 29)) 10 (some ⟨w8.heap.size,0,none⟩) 1 ([OT].map dY):=by
  have:=Sl.block (w:=(w8.alloc (Obj.cells #[.int .i64 1,.int .i64 0,.int .i64 0,.int .i64 0,.int .i64 0,.int .i64 1,.int .i64 2,.int .i64 5,.int .i64 3,.int .i64 0] 29))) (k:=10) ([OT].map dY) (heap_alloc_new w8 _) (xA _) rfl
  exact this
 have SB:S ((w8.alloc (Obj.cells #[.int .i64 1,.int .i64 0,.int .i64 0,.int .i64 0,.int .i64 0,.int .i64 1,.int .i64 2,.int .i64 5,.int .i64 3,.int .i64 0] 29)).alloc (Obj.cells #[.int .i64 2,.int .i64 0,.int .i64 0,.int .i64 2,.int .i64 0,.int .i64 0,.int .i64 0,.int .i64 0,.int .i64 0,.int .i64 0,.int .i64 11,.int .i64 0,.int .i64 4,.int .i64 0,.int .i64 0,.int .i64 0,.int .i64 0,.int .i64 0,.int .i64 0,.int .i64 0,.int .i64 2,.int .i64 0,.int .i64 0,.int .i64 2,.int .i64 0,.int .i64 0,.int .i64 0,.int .i64 0,.int .i64 0,.int .i64 0] 29)) 10 (some ⟨w8.heap.size+1,0,none⟩) 3 (PO.map dY):=by
  have:=Sl.block (w:=((w8.alloc (Obj.cells #[.int .i64 1,.int .i64 0,.int .i64 0,.int .i64 0,.int .i64 0,.int .i64 1,.int .i64 2,.int .i64 5,.int .i64 3,.int .i64 0] 29)).alloc (Obj.cells #[.int .i64 2,.int .i64 0,.int .i64 0,.int .i64 2,.int .i64 0,.int .i64 0,.int .i64 0,.int .i64 0,.int .i64 0,.int .i64 0,.int .i64 11,.int .i64 0,.int .i64 4,.int .i64 0,.int .i64 0,.int .i64 0,.int .i64 0,.int .i64 0,.int .i64 0,.int .i64 0,.int .i64 2,.int .i64 0,.int .i64 0,.int .i64 2,.int .i64 0,.int .i64 0,.int .i64 0,.int .i64 0,.int .i64 0,.int .i64 0] 29))) (k:=10) (PO.map dY) (heap_alloc_new (w8.alloc (Obj.cells #[.int .i64 1,.int .i64 0,.int .i64 0,.int .i64 0,.int .i64 0,.int .i64 1,.int .i64 2,.int .i64 5,.int .i64 3,.int .i64 0] 29)) _) (xA _) rfl
  rw[show(w8.alloc (Obj.cells #[.int .i64 1,.int .i64 0,.int .i64 0,.int .i64 0,.int .i64 0,.int .i64 1,.int .i64 2,.int .i64 5,.int .i64 3,.int .i64 0] 29)).heap.size=w8.heap.size+1 by simp]at this
  exact this
 have SX3:=(SX.oe oB).oe oS
 have SB3:=SB.oe oS
 have SA3:=((SA.oe oX).oe oB).oe oS
 have R3:=((R.oe oX).oe oB).oe oS
 have on3:=((on.to oX).to oB).to oS
 have HZ:Hid (∀i p,([⟨some ⟨w8.heap.size,0,none⟩,1,1,([OT]).map dY⟩,⟨some ⟨zA,0,none⟩,5,5,(KU).map dY⟩,⟨some ⟨(w8.heap.size+1),0,none⟩,3,3,(PO).map dY⟩,⟨some ⟨zA,0,none⟩,5,5,(KU).map dY⟩]:List Pt)[i]?=some p→(((w8.alloc (Obj.cells #[.int .i64 1,.int .i64 0,.int .i64 0,.int .i64 0,.int .i64 0,.int .i64 1,.int .i64 2,.int .i64 5,.int .i64 3,.int .i64 0] 29)).alloc (Obj.cells #[.int .i64 2,.int .i64 0,.int .i64 0,.int .i64 2,.int .i64 0,.int .i64 0,.int .i64 0,.int .i64 0,.int .i64 0,.int .i64 0,.int .i64 11,.int .i64 0,.int .i64 4,.int .i64 0,.int .i64 0,.int .i64 0,.int .i64 0,.int .i64 0,.int .i64 0,.int .i64 0,.int .i64 2,.int .i64 0,.int .i64 0,.int .i64 2,.int .i64 0,.int .i64 0,.int .i64 0,.int .i64 0,.int .i64 0,.int .i64 0] 29)).alloc (Obj.cells #[.slice (some ⟨w8.heap.size,0,none⟩) 1 1,.slice (some ⟨zA,0,none⟩) 5 5,.slice (some ⟨(w8.heap.size+1),0,none⟩) 3 3,.slice (some ⟨zA,0,none⟩) 5 5] 38)).cell? ⟨w8.heap.size+2,i,none⟩=some (.slice p.A p.n p.c)):=Lib.hid fun i p hp=>by
  match i with
  |0=>simp at hp;subst hp;simp[go_sem]
  |1=>simp at hp;subst hp;simp[go_sem]
  |2=>simp at hp;subst hp;simp[go_sem]
  |3=>simp at hp;subst hp;simp[go_sem]
  |i+4=>simp at hp
 have HS:Hid (∀p∈([⟨some ⟨w8.heap.size,0,none⟩,1,1,([OT]).map dY⟩,⟨some ⟨zA,0,none⟩,5,5,(KU).map dY⟩,⟨some ⟨(w8.heap.size+1),0,none⟩,3,3,(PO).map dY⟩,⟨some ⟨zA,0,none⟩,5,5,(KU).map dY⟩]:List Pt),Sl (((w8.alloc (Obj.cells #[.int .i64 1,.int .i64 0,.int .i64 0,.int .i64 0,.int .i64 0,.int .i64 1,.int .i64 2,.int .i64 5,.int .i64 3,.int .i64 0] 29)).alloc (Obj.cells #[.int .i64 2,.int .i64 0,.int .i64 0,.int .i64 2,.int .i64 0,.int .i64 0,.int .i64 0,.int .i64 0,.int .i64 0,.int .i64 0,.int .i64 11,.int .i64 0,.int .i64 4,.int .i64 0,.int .i64 0,.int .i64 0,.int .i64 0,.int .i64 0,.int .i64 0,.int .i64 0,.int .i64 2,.int .i64 0,.int .i64 0,.int .i64 2,.int .i64 0,.int .i64 0,.int .i64 0,.int .i64 0,.int .i64 0,.int .i64 0] 29)).alloc (Obj.cells #[.slice (some ⟨w8.heap.size,0,none⟩) 1 1,.slice (some ⟨zA,0,none⟩) 5 5,.slice (some ⟨(w8.heap.size+1),0,none⟩) 3 3,.slice (some ⟨zA,0,none⟩) 5 5] 38)) (((w8.alloc (Obj.cells #[.int .i64 1,.int .i64 0,.int .i64 0,.int .i64 0,.int .i64 0,.int .i64 1,.int .i64 2,.int .i64 5,.int .i64 3,.int .i64 0] 29)).alloc (Obj.cells #[.int .i64 2,.int .i64 0,.int .i64 0,.int .i64 2,.int .i64 0,.int .i64 0,.int .i64 0,.int .i64 0,.int .i64 0,.int .i64 0,.int .i64 11,.int .i64 0,.int .i64 4,.int .i64 0,.int .i64 0,.int .i64 0,.int .i64 0,.int .i64 0,.int .i64 0,.int .i64 0,.int .i64 2,.int .i64 0,.int .i64 0,.int .i64 2,.int .i64 0,.int .i64 0,.int .i64 0,.int .i64 0,.int .i64 0,.int .i64 0] 29)).alloc (Obj.cells #[.slice (some ⟨w8.heap.size,0,none⟩) 1 1,.slice (some ⟨zA,0,none⟩) 5 5,.slice (some ⟨(w8.heap.size+1),0,none⟩) 3 3,.slice (some ⟨zA,0,none⟩) 5 5] 38)).heap.size 10 p.A p.n p.rows):=Lib.hid fun p hp=>by
  simp only[List.mem_cons,List.not_mem_nil,or_false]at hp
  rcases hp with rfl|rfl|rfl|rfl
  · exact SX3
  · exact SA3
  · exact SB3
  · exact SA3
 have H1:Hid (∀p∈([⟨some ⟨w8.heap.size,0,none⟩,1,1,([OT]).map dY⟩,⟨some ⟨zA,0,none⟩,5,5,(KU).map dY⟩,⟨some ⟨(w8.heap.size+1),0,none⟩,3,3,(PO).map dY⟩,⟨some ⟨zA,0,none⟩,5,5,(KU).map dY⟩]:List Pt),∀r∈p.rows,∀u∈r,u.oneCell'=true):=Lib.hid fun p hp=>by
  simp only[List.mem_cons,List.not_mem_nil,or_false]at hp
  rcases hp with rfl|rfl|rfl|rfl
  all_goals exact LH _
 have HR:=Lib.hid R3;have HON:=Lib.hid on3;have HW:=Lib.hid hW
 clear oX oB oS SX SB SX3 SB3 SA3 R3 on3 SA R on b7 b8 hW
 go_wp2_with fail
 refine Calls.mono (vX _ [⟨some ⟨w8.heap.size,0,none⟩,1,1,([OT]).map dY⟩,⟨some ⟨zA,0,none⟩,5,5,(KU).map dY⟩,⟨some ⟨(w8.heap.size+1),0,none⟩,3,3,(PO).map dY⟩,⟨some ⟨zA,0,none⟩,5,5,(KU).map dY⟩] (w8.heap.size+2) 4 HZ.out HS.out H1.out (by simp) (by simp) (by simp[iX])) ?_
 rintro e w9⟨A1,c1,rfl,ow,b9⟩
 have SL:S w9 10 A1 14 (KN.map dY):=ow.sl
 have R:=HR.out.oe b9;have on:=HON.out.to b9
 clear HZ HS H1 HR HON ow b9
 go_wp2_with fail
 refine Calls.mono (GW A 3 n 0 C 3 m 0 ns cs A1 14 c1 KN _ (E.oe on) R SL) ?_
 rw[HW.out]
 rintro e w10⟨A',n',c',C',m',d',ns',cs',B,b,y,rfl,R',e1,e2,SE,hby,hym,b10,_⟩
 replace on:=on.to b10
 have hs1:(tS qV KN).2.1=[0,0,0,0,0,0,5,0,0,0,0,0,0,0]:=by rw[JA]
 have hs2:(tS qV KN).2.2=0:=by rw[JA]
 have ht:(tS qV KN).1.tip=2:=xH.1
 have hp:(cG (tS qV KN).1.c 0).played=2:=xH.2.1
 have hr:(cG (tS qV KN).1.c 0).b.rung=[⟨2,3,0⟩]:=xH.2.2
 have hl3:(tS qV KN).1.c.length=3:=(cQ.run (l:=KN) cQ.new).c3
 rw[hs1]at SE
 rw[hs2,ht]
 have hcl:cs'.length=m':=R'.clen
 have hb14:14=b:=by have:=SE.len;simpa using this
 subst hb14
 have hm3:3=m':=by rw[←hcl,←hl3,←e2];simp[bL]
 subst hm3
 generalize(tS qV KN).1.time=tm at *
 obtain⟨bc,oc,v,rfl,hbc,hv,vi,q0,q1,q2,q3,q4,q5,q6,q7,q8,q9,q10,q11⟩:=R'.atC (i:=0) (by omega)
 have hvx:cG (tS qV KN).1.c 0=v.x:=by rw[←e2];exact cU hv
 rw[hvx]at hp hr
 rw[hp]at q9
 have sr:=vi.rung
 rw[hr]at sr
 have hvm:1=v.m:=by have:=sr.len;simpa using this
 rw[←hvm]at sr q11
 obtain⟨br,offr,xr,hGr,hbr,hxr,r0,r1,r2⟩:=Sl.atR sr (i:=0) (by omega)
 simp at hxr
 subst hxr
 rw[hGr]at q11
 simp only[Nat.zero_mul,Nat.add_zero]at q9 q11 r0 r1 r2
 clear R' e1 e2 hs1 hs2 ht hp hr hl3 hcl q0 q1 q2 q3 q4 q5 q6 q7 q8 q10 hv vi hvx hvm hbc sr hbr HW E R SL hGr
 have SEh:=Lib.hid SE
 have hs:=QK 2 3 0 2 3 0
 clear SE
 go_upto_region 4 with fail
 refine aW (v1:=[.slice A' n' c',.int .i64 2,.slice (some ⟨bc,oc,none⟩) 3 d',.int .i64 tm]) rfl fun w11 oW WW=>?_
 have q9:=aB oW q9;have q11:=aB oW q11;have r0:=aB oW r0;have r1:=aB oW r1;have r2:=aB oW r2
 replace on:=on.to oW
 have SE:=Lib.hid (SEh.out.oe oW)
 clear oW SEh
 generalize w10.heap.size=zW at *
 go_wp2_with fail
 refine Calls.mono (AW B 14 y _ 5 _ SE.out (by omega)) ?_
 rw[show lM (fun y=>decide ((5:Int)=y)) [0,0,0,0,0,0,5,0,0,0,0,0,0,0]=6 by decide]
 rintro e w12⟨rfl,b⟩
 have SE2:=Lib.hid (SE.out.oe b)
 replace q9:=aB b q9;replace q11:=aB b q11;replace r0:=aB b r0;replace r1:=aB b r1;replace r2:=aB b r2
 replace on:=on.to b;replace WW:=WW.oe b
 clear SE b
 go_wp2_with fail
 refine Calls.mono (qJ B 14 y _ 30 (fun x=>decide (x≠0)&&decide (x≠5)) _ SE2.out (by omega) (fun _ _=>by kernel_rfl) (fun x w' _=>EE x w')) ?_
 rw[show decide (0≤lM (fun x:Int=>decide (x≠0)&&decide (x≠5)) [0,0,0,0,0,0,5,0,0,0,0,0,0,0])=false by decide]
 rintro e w13⟨rfl,b⟩
 replace q9:=aB b q9;replace q11:=aB b q11;replace r0:=aB b r0;replace r1:=aB b r1;replace r2:=aB b r2
 replace on:=on.to b;replace WW:=WW.oe b
 clear SE2 b
 have u1:=WW.at_ 1 rfl;have u2:=WW.at_ 2 rfl
 go_wp2_with fail
 go_ret
 exact⟨by first|rfl|simp,on⟩
end
end Go.Proofs.YtpfkagghooihfaaGreatDoor
