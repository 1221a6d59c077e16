/- Part 30 of the proof: WNew. -/
import Derived.Test.YtidlffepdcldkaaGreatDoorBa12
import Derived.Test.YtidlffepdcldkaaGreatDoorBa18
import Derived.Test.YtidlffepdcldkaaGreatDoorBa23
import Derived.Test.YtidlffepdcldkaaGreatDoorBa20
import Derived.Test.YtidlffepdcldkaaGreatDoorBa26
import Derived.Test.YtidlffepdcldkaaGreatDoorBa06
namespace Go.Proofs.YtidlffepdcldkaaGreatDoor
set_option linter.unusedSimpArgs false
set_option linter.unusedVariables false
section
open Go.RowKit
attribute [local go_sem ↓] Go.wp_at_zero Go.wp_at_succ
def newC:CV:=⟨newCl,none,0,0,none,0,0⟩
theorem newC_in (w:World):newC.In w:=⟨Sl.nil,Sl.nil,Nat.le_refl _,Nat.le_refl _⟩
structure NewN (lo:Nat) (w:World) (v:Value) (ns:List NV):Prop where
 x:∀ v∈ns,v.x=newN
 i:∀ v∈ns,v.In w
 f:∀ v∈ns,v.fresh lo
 o:∀ b,v.ownBlock=some b→∀ u∈ns,u.off b
theorem NewN.onto {lo:Nat} {w w':World} {v:Value} {ns:List NV} (h:NewN lo w v ns) (b:Onto w w'):NewN lo w' v ns:=⟨h.x,fun v hv=>(h.i v hv).onto b,h.f,h.o⟩
theorem NewN.put {lo:Nat} {w:World} {v:Value} {ns:List NV} (h:NewN lo w v ns) {p:Addr} (hp:p.block<lo) (u:Value):NewN lo (w.setCell p u) v ns:=⟨h.x,fun v hv=>(h.i v hv).put ((h.f v hv).off hp) u,h.f,h.o⟩
theorem NewN.app {lo : Nat} {w w' : World} {v v' : Value} {ns : List NV} {n : NV} (h : NewN lo w v ns) (hx : n.x = newN) (hi : n.In w) (hf : n.fresh lo) (ho : ∀ b, v.ownBlock = some b → n.off b) (g : w.grownBy w' v.ownBlock)
    (hv:v'.ownBlock=v.ownBlock∨v'.ownBlock=some w.heap.size):NewN lo w' v' (ns ++[n]):=by
 have hall:∀ u∈ns ++[n],u.In w∧u.x=newN∧u.fresh lo∧∀ b,v.ownBlock=some b→u.off b:=fun u hu=>by
  rcases List.mem_append.1 hu with hu | hu
  · exact ⟨h.i u hu,h.x u hu,h.f u hu,fun b hb=>h.o b hb u hu⟩
  · obtain rfl:=List.mem_singleton.1 hu;exact ⟨hi,hx,hf,ho⟩
 refine ⟨fun u hu=>(hall u hu).2.1,fun u hu=>(hall u hu).1.gr g (hall u hu).2.2.2,fun u hu=>(hall u hu).2.2.1,fun b hb u hu=>?_⟩
 rcases hv with hv | hv
 · exact (hall u hu).2.2.2 b (hv.symm.trans hb)
 · rw [hv] at hb;injection hb with hb;subst hb;exact (hall u hu).1.away (Nat.le_refl _)
set_option maxHeartbeats 8000000 in
set_option maxRecDepth 100000 in
theorem WNew_calls (w:World):Calls Tryz.prog 26 #[] w fun e w'=>∃ A n C m ns cs,e=.returned (.agg #[.slice A 3 n,.int .i64 0,.slice C 3 m,.int .i64 0])∧WR w' A 3 C 3 ns cs∧wor ns 0 cs 0=newW∧Onto w w':=by
 go_enter Tryz.func26,Tryz.ntmps26
 go_upto_region 2 with fail
 have on:=((Onto.rfl' w).new (Obj.cells #[.slice none 0 0,.int .i64 0,.slice none 0 0,.int .i64 0] 25)).new (Obj.cells #[.slice none 0 0,.int .i64 0,.slice none 0 0,.int .i64 0] 25)
 have Q:Bx ((w.alloc (Obj.cells #[.slice none 0 0,.int .i64 0,.slice none 0 0,.int .i64 0] 25)).alloc (Obj.cells #[.slice none 0 0,.int .i64 0,.slice none 0 0,.int .i64 0] 25)) w.heap.size [.slice none 0 0,.int .i64 0,.slice none 0 0,.int .i64 0]:=(Bx.made _ _ _).new _
 have Z:Bx ((w.alloc (Obj.cells #[.slice none 0 0,.int .i64 0,.slice none 0 0,.int .i64 0] 25)).alloc (Obj.cells #[.slice none 0 0,.int .i64 0,.slice none 0 0,.int .i64 0] 25)) (w.heap.size+1) [.slice none 0 0,.int .i64 0,.slice none 0 0,.int .i64 0]:=made1 w _ #[.slice none 0 0,.int .i64 0,.slice none 0 0,.int .i64 0] _
 try change Code.wp _ _ _ _ ((w.alloc (Obj.cells #[.slice none 0 0,.int .i64 0,.slice none 0 0,.int .i64 0] 25)).alloc (Obj.cells #[.slice none 0 0,.int .i64 0,.slice none 0 0,.int .i64 0] 25))
 have hs1:w.heap.size+2≤((w.alloc (Obj.cells #[.slice none 0 0,.int .i64 0,.slice none 0 0,.int .i64 0] 25)).alloc (Obj.cells #[.slice none 0 0,.int .i64 0,.slice none 0 0,.int .i64 0] 25)).heap.size:=by simp
 generalize ((w.alloc (Obj.cells #[.slice none 0 0,.int .i64 0,.slice none 0 0,.int .i64 0] 25)).alloc (Obj.cells #[.slice none 0 0,.int .i64 0,.slice none 0 0,.int .i64 0] 25))=w1 at *
 obtain ⟨z,hz⟩:∃ z,z=w.heap.size:=⟨_,rfl⟩
 obtain ⟨zw,hzw⟩:∃ z,z=w.heap.size+1:=⟨_,rfl⟩
 obtain ⟨lo,hlo⟩:∃ z,z=w.heap.size+2:=⟨_,rfl⟩
 rw [← hz] at Q;rw [← hzw] at Z;rw [← hlo] at hs1
 have h1:w.heap.size≤z:=by omega
 have h2:w.heap.size≤zw:=by omega
 have h3:z<lo:=by omega
 have h4:zw<lo:=by omega
 have h5:z≠zw:=by omega
 rw [← hzw,← hz]
 clear hz hzw hlo
 go_wp2_with fail
 go_loopg [2] 3 (fun g s2 wr=>∃ (k y:Nat) (A:Option Addr) (ns:List NV),k≤3∧3 - k≤g∧s2=.int .i64 k∧Hid (Own wr lo 56 5 (.slice A k y) k (ns.map encN))∧Hid (NewN lo wr (.slice A k y) ns)∧Bx wr zw [.slice A k y,.int .i64 0,.slice none 0 0,.int .i64 0]∧Bx wr z [.slice none 0 0,.int .i64 0,.slice none 0 0,.int .i64 0]∧lo≤wr.heap.size∧Onto w wr)
 case atStart=>exact ⟨0,0,none,[],by omega,by omega,rfl,Own.nil _ _ _ _,Lib.hid ⟨fun _ h=>absurd h (by simp),fun _ h=>absurd h (by simp),fun _ h=>absurd h (by simp),fun b hb=>by cases hb⟩,Z,Q,hs1,on⟩
 case round =>
  clear Z Q on hs1
  obtain ⟨k,y,A,ns,hk,hg,rfl,HO,HNN,Z,Q,hsl,on⟩:=hrel
  by_cases hlt:k<3
  · obtain ⟨i0,hi0,hzz0,hzz1,hzz2⟩:=info_parts rinfoD
    have HI:=Lib.hid hi0;have HZ0:=Lib.hid hzz0;have HZ1:=Lib.hid hzz1;have HZ2:=Lib.hid hzz2
    clear hi0 hzz0 hzz1 hzz2
    have hb5:∀ b,(Value.slice A k y).ownBlock=some b→b<wr.heap.size:=fun b hb=>(HO.out.lt b hb).2
    have HB5:=Lib.hid hb5
    clear hb5
    have z0:=Z.at_ 0 rfl;have g0:=Z.froz 0
    have hzl:=Z.lt
    go_upto_region 4 with fail
    go_region_law (first
     | (go_simp; go_at_call 50; refine Calls.mono (UNew2_calls _) ?_; rintro e w5 ⟨A5, c5, rfl, hs5, ob, hc5, hm5, f5⟩; have b5 : Onto wr w5 := Onto.to (by with_reducible (first | exact Onto.rfl' _ | exact (Onto.rfl' _).draw | exact (Onto.rfl' _).draws _ | exact ((Onto.rfl' _).new _).draw | exact ((Onto.rfl' _).draw).new _)) ob; have y0 := cellB b5 z0; have y0' := cellB (b5.new (Obj.cells #[.int .i64 1, .slice A5 60 c5, .slice none 0 0, .slice none 0 0, .bool true] 56)) z0
        have HNEW:Hid (Sl (w5.alloc (Obj.cells #[.int .i64 1,.slice A5 60 c5,.slice none 0 0,.slice none 0 0,.bool true] 56)) (w5.heap.size+1) 5 (some ⟨w5.heap.size,0,none⟩) 1 [encN (⟨newN,A5,60,c5,none,0,0,none,0,0⟩:NV)]):=by
         have:=Sl.block (w:=w5.alloc (Obj.cells #[.int .i64 1,.slice A5 60 c5,.slice none 0 0,.slice none 0 0,.bool true] 56)) (k:=5) [encN (⟨newN,A5,60,c5,none,0,0,none,0,0⟩:NV)] (heap_alloc_new w5 _) (by simp [encN]) rfl
         exact Lib.hid (by simpa using this)
        have HO5:=Lib.hid ((HO.out.below b5).alloc (Obj.cells #[.int .i64 1,.slice A5 60 c5,.slice none 0 0,.slice none 0 0,.bool true] 56))
        have hs5l:wr.heap.size≤w5.heap.size:=b5.size
        have hlo5:lo≤(w5.alloc (Obj.cells #[.int .i64 1,.slice A5 60 c5,.slice none 0 0,.slice none 0 0,.bool true] 56)).heap.size:=by simp;omega)
     | (rw [if_pos (by simp [Region.wanted])]; refine wp_append_sl _ (.tmp 5) (.tmp 8) 22 rfl lo 56 i0 _ 5 88 Tryz.underlying22 HI.out HZ0.out HZ1.out HZ2.out rfl (by decide) (.slice A k y) k (ns.map encN) (by simp [Act.eval, Act.put]) HO5.out (w5.heap.size + 1) (some ⟨w5.heap.size, 0, none⟩) 1 1 [encN (⟨newN, A5, 60, c5, none, 0, 0, none, 0, 0⟩ : NV)] (by simp [Act.eval, Act.put]) HNEW.out (by simp [encN, Value.oneCell']) (by unfold maxLen; omega) (by omega) hlo5 ?_; intro v8 w8 own8 grow0 hv8; obtain ⟨A8, c8, rfl, _, _⟩ := own8.slice
        have grow8:(w5.alloc (Obj.cells #[.int .i64 1,.slice A5 60 c5,.slice none 0 0,.slice none 0 0,.bool true] 56)).grownBy w8 (Value.ownBlock (.slice A k y)):=grow0
        have hne:some zw≠Value.ownBlock (.slice A k y):=HO.out.notBelow h4
        have Z8:=(Z.onto (b5.new (Obj.cells #[.int .i64 1,.slice A5 60 c5,.slice none 0 0,.slice none 0 0,.bool true] 56))).grown grow8 hne
        have u0:=Z8.at_ 0 rfl;have t0:=Z8.froz 0
        clear grow0 hne))
    all_goals
     have hE8:Onto wr (w5.alloc (Obj.cells #[.int .i64 1,.slice A5 60 c5,.slice none 0 0,.slice none 0 0,.bool true] 56)):=b5.new _
     have hN8:NewN lo w8 (.slice A8 (k+1) c8) (ns ++[(⟨newN,A5,60,c5,none,0,0,none,0,0⟩:NV)]):=(HNN.out.onto hE8).app (n:=(⟨newN,A5,60,c5,none,0,0,none,0,0⟩:NV)) rfl ⟨hs5.new _,DK.none_ _,hc5,hm5⟩ ⟨fun a e=>Nat.le_trans hsl (f5 a e),Fresh.none_ _,Fresh.none_ _⟩ (fun b hb=>⟨f5.offN (HB5.out b hb),fun h=>absurd h (Nat.lt_irrefl _),fun h=>absurd h (Nat.lt_irrefl _)⟩) grow8 hv8
     have Q8:=(Q.onto hE8).grown grow8 (HO.out.notBelow h3)
     have on8:Onto w w8:=below_grown (on.to hE8) (on.to hE8).size grow8 (fun g hg=>by have:=(HO.out.lt g hg).1;omega)
     have hO8:Own w8 lo 56 5 (.slice A8 (k+1) c8) (k+1) ((ns ++[(⟨newN,A5,60,c5,none,0,0,none,0,0⟩:NV)]).map encN):=by rw [List.map_append];exact own8
     have HN9:=Lib.hid (hN8.put (p:=⟨zw,0,none⟩) h4 (.slice A8 (k+1) c8))
     have HO9:=Lib.hid (hO8.setCell (p:=⟨zw,0,none⟩) h4 (.slice A8 (k+1) c8))
     have Z9:=Z8.put1 (j:=0) (by simp) (.slice A8 (k+1) c8)
     have Q9:=Q8.grown ((Turn.rfl' w8 zw).put (p:=⟨zw,0,none⟩) rfl (.slice A8 (k+1) c8)) (by intro e;injection e with e;exact h5 e)
     have on9:=on8.put (p:=⟨zw,0,none⟩) h2 (.slice A8 (k+1) c8)
     have hl9:lo≤(w8.setCell ⟨zw,0,none⟩ (.slice A8 (k+1) c8)).heap.size:=by have:=grow8.size;simp at this ⊢;omega
     clear own8 grow8 hv8 Z8 u0 t0 hE8 hN8 Q8 on8 hO8 HO HNN Z Q on z0 g0 y0 y0' HNEW HO5 HI HZ0 HZ1 HZ2 HB5 hs5 ob f5 b5
     generalize w8.setCell ⟨zw,0,none⟩ (.slice A8 (k+1) c8)=w9 at *
     go_wp2_with fail
     go_roundg (3 - (k+1))
     case measure=>omega
     case rel=>exact ⟨k+1,c8,A8,_,by omega,Nat.le_refl _,by go_num,HO9,HN9,Z9,Q9,hl9,on9⟩
  · obtain rfl:k=3:=by omega
    have hl3:ns.length=3:=by have:=HO.out.sl.len;simpa using this
    have hS:=HO.out.sl
    have HS:Hid (S wr 5 A 3 (ns.map encN)):=Lib.hid hS
    have HX:=Lib.hid HNN.out.x;have HI:=Lib.hid HNN.out.i;have HF:=Lib.hid HNN.out.f;have HL3:=Lib.hid hl3
    have hA:Fresh lo A:=HO.out.fresh (Nat.le_refl _)
    have HA:=Lib.hid hA
    clear HO HNN hg hS hl3 hA
    go_wp2_with fail
    go_loopg [12] 3 (fun g s12 wr=>∃ (k c:Nat) (C:Option Addr),k≤3∧3 - k≤g∧s12=.int .i64 k∧Hid (Own wr lo 66 12 (.slice C k c) k ((List.replicate k newC).map encC))∧Hid (S wr 5 A 3 (ns.map encN))∧Hid (∀ v∈ns,v.In wr)∧Hid (∀ b,(Value.slice C k c).ownBlock=some b→OffN 3 b A∧∀ v∈ns,v.off b)∧Bx wr zw [.slice A 3 y,.int .i64 0,.slice C k c,.int .i64 0]∧Bx wr z [.slice none 0 0,.int .i64 0,.slice none 0 0,.int .i64 0]∧lo≤wr.heap.size∧Onto w wr)
    case atStart=>exact ⟨0,0,none,by omega,by omega,rfl,Own.nil _ _ _ _,HS,HI,Lib.hid (fun b hb=>by cases hb),Z,Q,hsl,on⟩
    case round =>
     clear Z Q on hsl HS HI
     obtain ⟨k,c,C,hk,hg,rfl,HO,HS,HI,HB,Z,Q,hsl,on⟩:=hrel
     by_cases hlt:k<3
     · obtain ⟨i0,hi0,hzz0,hzz1,hzz2⟩:=info_parts rinfoC
       have HII:=Lib.hid hi0;have HZ0:=Lib.hid hzz0;have HZ1:=Lib.hid hzz1;have HZ2:=Lib.hid hzz2
       clear hi0 hzz0 hzz1 hzz2
       have z0:=Z.at_ 2 rfl;have g0:=Z.froz 2
       have hzl:=Z.lt
       go_upto_region 8 with fail
       go_region_law (first
        | (go_simp; go_at_call 51; refine Calls.mono (ClNew_calls _) ?_; rintro e w5 ⟨rfl, ob⟩; have b5 : Onto wr w5 := Onto.to (by with_reducible (first | exact Onto.rfl' _ | exact (Onto.rfl' _).draw | exact (Onto.rfl' _).draws _ | exact ((Onto.rfl' _).new _).draw | exact ((Onto.rfl' _).draw).new _)) ob; have y0 := cellB b5 z0; have y0' := cellB (b5.new (Obj.cells #[.int .i64 1, .int .i64 0, .int .i64 0, .int .i64 0, .int .i64 0, .int .i64 0, .int .i64 0, .int .i64 0, .int .i64 0, .int .i64 0, .slice none 0 0, .slice none 0 0] 66)) z0
           have HNEW:Hid (Sl (w5.alloc (Obj.cells #[.int .i64 1,.int .i64 0,.int .i64 0,.int .i64 0,.int .i64 0,.int .i64 0,.int .i64 0,.int .i64 0,.int .i64 0,.int .i64 0,.slice none 0 0,.slice none 0 0] 66)) (w5.heap.size+1) 12 (some ⟨w5.heap.size,0,none⟩) 1 [encC newC]):=by
            have:=Sl.block (w:=w5.alloc (Obj.cells #[.int .i64 1,.int .i64 0,.int .i64 0,.int .i64 0,.int .i64 0,.int .i64 0,.int .i64 0,.int .i64 0,.int .i64 0,.int .i64 0,.slice none 0 0,.slice none 0 0] 66)) (k:=12) [encC newC] (heap_alloc_new w5 _) (by simp [encC]) rfl
            exact Lib.hid (by simpa using this)
           have HO5:=Lib.hid ((HO.out.below b5).alloc (Obj.cells #[.int .i64 1,.int .i64 0,.int .i64 0,.int .i64 0,.int .i64 0,.int .i64 0,.int .i64 0,.int .i64 0,.int .i64 0,.int .i64 0,.slice none 0 0,.slice none 0 0] 66))
           have hs5l:wr.heap.size≤w5.heap.size:=b5.size
           have hlo5:lo≤(w5.alloc (Obj.cells #[.int .i64 1,.int .i64 0,.int .i64 0,.int .i64 0,.int .i64 0,.int .i64 0,.int .i64 0,.int .i64 0,.int .i64 0,.int .i64 0,.slice none 0 0,.slice none 0 0] 66)).heap.size:=by simp;omega)
        | (rw [if_pos (by simp [Region.wanted])]; refine wp_append_sl _ (.tmp 15) (.tmp 17) 23 rfl lo 66 i0 _ 12 128 Tryz.underlying23 HII.out HZ0.out HZ1.out HZ2.out rfl (by decide) (.slice C k c) k ((List.replicate k newC).map encC) (by simp [Act.eval, Act.put]) HO5.out (w5.heap.size + 1) (some ⟨w5.heap.size, 0, none⟩) 1 1 [encC newC] (by simp [Act.eval, Act.put]) HNEW.out (by simp [encC, Value.oneCell']) (by unfold maxLen; omega) (by omega) hlo5 ?_; intro v8 w8 own8 grow0 hv8; obtain ⟨A8, c8, rfl, _, _⟩ := own8.slice
           have grow8:(w5.alloc (Obj.cells #[.int .i64 1,.int .i64 0,.int .i64 0,.int .i64 0,.int .i64 0,.int .i64 0,.int .i64 0,.int .i64 0,.int .i64 0,.int .i64 0,.slice none 0 0,.slice none 0 0] 66)).grownBy w8 (Value.ownBlock (.slice C k c)):=grow0
           have hne:some zw≠Value.ownBlock (.slice C k c):=HO.out.notBelow h4
           have Z8:=(Z.onto (b5.new (Obj.cells #[.int .i64 1,.int .i64 0,.int .i64 0,.int .i64 0,.int .i64 0,.int .i64 0,.int .i64 0,.int .i64 0,.int .i64 0,.int .i64 0,.slice none 0 0,.slice none 0 0] 66))).grown grow8 hne
           have u0:=Z8.at_ 2 rfl;have t0:=Z8.froz 2
           clear grow0 hne))
       all_goals
        have hE8:Onto wr (w5.alloc (Obj.cells #[.int .i64 1,.int .i64 0,.int .i64 0,.int .i64 0,.int .i64 0,.int .i64 0,.int .i64 0,.int .i64 0,.int .i64 0,.int .i64 0,.slice none 0 0,.slice none 0 0] 66)):=b5.new _
        have hS5:=HS.out.onto hE8
        have hI5:∀ v∈ns,v.In (w5.alloc (Obj.cells #[.int .i64 1,.int .i64 0,.int .i64 0,.int .i64 0,.int .i64 0,.int .i64 0,.int .i64 0,.int .i64 0,.int .i64 0,.int .i64 0,.slice none 0 0,.slice none 0 0] 66)):=fun v hv=>(HI.out v hv).onto hE8
        have hB8:∀ b,(Value.slice A8 (k+1) c8).ownBlock=some b→OffN 3 b A∧∀ v∈ns,v.off b:=fun b hb=>by
         rcases hv8 with h | h
         · exact HB.out b (h.symm.trans hb)
         · rw [h] at hb;injection hb with hb;subst hb;exact ⟨hS5.offN (Nat.le_refl _),fun v hv=>(hI5 v hv).away (Nat.le_refl _)⟩
        have hS8:=hS5.grown grow8 (fun b hb=>(HB.out b hb).1)
        have hI8:∀ v∈ns,v.In w8:=fun v hv=>(hI5 v hv).gr grow8 (fun b hb=>(HB.out b hb).2 v hv)
        have Q8:=(Q.onto hE8).grown grow8 (HO.out.notBelow h3)
        have on8:Onto w w8:=below_grown (on.to hE8) (on.to hE8).size grow8 (fun g hg=>by have:=(HO.out.lt g hg).1;omega)
        have hO8:Own w8 lo 66 12 (.slice A8 (k+1) c8) (k+1) ((List.replicate (k+1) newC).map encC):=by
         rw [List.replicate_succ',List.map_append];exact own8
        have HB9:=Lib.hid hB8
        have HS9:=Lib.hid (S.off hS8 (p:=⟨zw,2,none⟩) (HA.out.offN h4) (.slice A8 (k+1) c8))
        have HI9:Hid (∀ v∈ns,v.In (w8.setCell ⟨zw,2,none⟩ (.slice A8 (k+1) c8))):=Lib.hid fun v hv=>(hI8 v hv).put (p:=⟨zw,2,none⟩) ((HF.out v hv).off h4) _
        have HO9:=Lib.hid (hO8.setCell (p:=⟨zw,2,none⟩) h4 (.slice A8 (k+1) c8))
        have Z9:=Z8.put1 (j:=2) (by simp) (.slice A8 (k+1) c8)
        have Q9:=Q8.grown ((Turn.rfl' w8 zw).put (p:=⟨zw,2,none⟩) rfl (.slice A8 (k+1) c8)) (by intro e;injection e with e;exact h5 e)
        have on9:=on8.put (p:=⟨zw,2,none⟩) h2 (.slice A8 (k+1) c8)
        have hl9:lo≤(w8.setCell ⟨zw,2,none⟩ (.slice A8 (k+1) c8)).heap.size:=by have:=grow8.size;simp at this ⊢;omega
        clear own8 grow8 hv8 Z8 u0 t0 hE8 hS5 hI5 hB8 hS8 hI8 Q8 on8 hO8 HO HS HI HB Z Q on z0 g0 y0 y0' HNEW HO5 HII HZ0 HZ1 HZ2 ob b5
        generalize w8.setCell ⟨zw,2,none⟩ (.slice A8 (k+1) c8)=w9 at *
        go_wp2_with fail
        go_roundg (3 - (k+1))
        case measure=>omega
        case rel=>exact ⟨k+1,c8,A8,by omega,Nat.le_refl _,by go_num,HO9,HS9,HI9,HB9,Z9,Q9,hl9,on9⟩
     · obtain rfl:k=3:=by omega
       have z0:=Z.at_ 0 rfl;have z1:=Z.at_ 1 rfl;have z2:=Z.at_ 2 rfl;have z3:=Z.at_ 3 rfl
       have q0:=Q.at_ 0 rfl;have q1:=Q.at_ 1 rfl;have q2:=Q.at_ 2 rfl;have q3:=Q.at_ 3 rfl
       have f0:=Q.froz 0;have f1:=Q.froz 1;have f2:=Q.froz 2;have f3:=Q.froz 3
       go_wp2_with fail
       refine bodyPost_ret (v:=.agg #[.slice A 3 y,.int .i64 0,.slice C 3 c,.int .i64 0]) (by simp [results,Tryz.results26,go_sem,q0,q1,q2,q3,f0,f1,f2,f3]) rfl ?_
       have hs:=HO.out.sl
       have c9:OffN 3 z C:=(HO.out.fresh (Nat.le_refl _)).offN h3
       have a9:OffN 3 z A:=HA.out.offN h3
       refine ⟨A,y,C,c,ns,List.replicate 3 newC,rfl,⟨?_,?_,fun v hv=>?_,fun v hv=>?_⟩,?_,(((on.put h1 _).put h1 _).put h1 _).put h1 _⟩
       · exact S.off (S.off (S.off (S.off HS.out a9 _) a9 _) a9 _) a9 _
       · exact S.off (S.off (S.off (S.off hs c9 _) c9 _) c9 _) c9 _
       · exact ((((HI.out v hv).put ((HF.out v hv).off h3) _).put ((HF.out v hv).off h3) _).put ((HF.out v hv).off h3) _).put ((HF.out v hv).off h3) _
       · obtain rfl:=List.eq_of_mem_replicate hv;exact newC_in _
       · have e:nods ns=[newN,newN,newN]:=by
          obtain ⟨a,b,d,rfl⟩:=len3 HL3.out
          simp [nods,HX.out a (by simp),HX.out b (by simp),HX.out d (by simp)]
         unfold wor;rw [e];rfl
end
end Go.Proofs.YtidlffepdcldkaaGreatDoor
