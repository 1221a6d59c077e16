/- Part 31 of the proof: Cont, REnt, RUnit, Unit3. -/
import Derived.Test.YtidlffepdcldkaaGreatDoorProg
import Derived.Test.YtidlffepdcldkaaGreatDoorBa01
import Derived.Lib.Strings
import Derived.Lib.Slices
import Derived.Lib.Walk
import Derived.Lib.Bytealg
import Derived.Test.YtidlffepdcldkaaGreatDoorBa13
import Derived.Test.YtidlffepdcldkaaGreatDoorBa17
namespace Go.Proofs.YtidlffepdcldkaaGreatDoor
set_option linter.unusedSimpArgs false
set_option linter.unusedVariables false
section
set_option maxHeartbeats 1000000 in
set_option maxRecDepth 100000 in
theorem liteIndexByte_calls (s : ByteArray) (c : Int) (w : World) :
    Calls Tryz.prog 141 #[.string s,.int .u8 c] w fun e w'=>e=.returned (.int .i64 (Lib.indexByte s.data.toList c.toNat.toUInt8))∧w'=w:=by
 go_enter Tryz.func141,Tryz.ntmps141
 go_wp2
 rw [run_callFunc_extern Tryz.func165 (by kernel_rfl) (by kernel_rfl) (by kernel_rfl) (e:=Extern.BytealgIndexByte.indexByte) (by kernel_rfl),Lib.run_indexByteString]
 simp only [Result.andThen]
 rw [Oper.upon_value]
 go_wp2
 go_ret
 exact ⟨rfl,rfl⟩
set_option maxHeartbeats 2000000 in
set_option maxRecDepth 100000 in
theorem liteIndex_calls (s : ByteArray) (c : UInt8) (w : World) :
    Calls Tryz.prog 118 #[.string s,.string ⟨#[c]⟩] w fun e w'=>e=.returned (.int .i64 (Lib.indexByte s.data.toList c))∧w'=w:=by
 go_enter Tryz.func118,Tryz.ntmps118
 go_wp2_with (go_at_call 141;refine (liteIndexByte_calls _ _ _).mono ?_;rintro e w' ⟨rfl,rfl⟩)
 · have h:([c] ==s.toList)=true:=by assumption
   go_ret
   refine ⟨?_,rfl⟩
   have e:s.data.toList=[c]:=by rw [← Lib.toList_data];exact (beq_iff_eq.1 h).symm
   rw [e]
   simp [Lib.indexByte]
 · go_ret
   exact ⟨rfl,rfl⟩
set_option maxHeartbeats 1000000 in
theorem strIndex_calls (s : ByteArray) (c : UInt8) (w : World) :
    Calls Tryz.prog 93 #[.string s,.string ⟨#[c]⟩] w fun e w'=>e=.returned (.int .i64 (Lib.indexByte s.data.toList c))∧w'=w:=by
 go_enter Tryz.func93,Tryz.ntmps93
 go_wp2_with (go_at_call 118;refine (liteIndex_calls _ _ _).mono ?_;rintro e w' ⟨rfl,rfl⟩)
 go_ret
 exact ⟨rfl,rfl⟩
set_option maxHeartbeats 1000000 in
theorem strContains_calls (s : ByteArray) (c : UInt8) (w : World) :
    Calls Tryz.prog 73 #[.string s,.string ⟨#[c]⟩] w fun e w'=>e=.returned (.bool (decide (0≤Lib.indexByte s.data.toList c)))∧w'=w:=by
 go_enter Tryz.func73,Tryz.ntmps73
 go_wp2_with (go_at_call 93;refine (strIndex_calls _ _ _).mono ?_;rintro e w' ⟨rfl,rfl⟩)
 go_ret
 exact ⟨rfl,rfl⟩
end
section
open Go.RowKit
theorem in_calls (n a b : Int) (w : World) :
    Calls Tryz.prog 17 #[.int .i64 n,.int .i64 a,.int .i64 b] w fun e w'=>e=.returned (.bool (decide (a≤n) && decide (n≤b)))∧w=w':=by
 go_enter Tryz.func17,Tryz.ntmps17
 by_cases h:a≤n
 · go_wp2
   go_ret
   exact ⟨by simp [h],rfl⟩
 · have h':decide (a≤n)=false:=by simpa using h
   go_wp2
   go_ret
   exact ⟨by simp [h],rfl⟩
theorem CE1_calls (s : ByteArray) (c : UInt8) (n : Int) (q : Nat) (w : World) (hq : w.cell? ⟨q, 0, none⟩ = some (.string s)) :
    Calls Tryz.prog 72 #[.string ⟨#[c]⟩,.int .i64 n,.pointer (some ⟨q,0,none⟩)] w fun e w'=>e=.returned (.bool ((n !=0) && !(decide (0≤Lib.indexByte s.data.toList c))))∧w=w':=by
 go_enter Tryz.func72,Tryz.ntmps72
 by_cases h:n=0
 · have h':(n !=0)=false:=by simp [h]
   go_wp2_with fail
   go_ret
   exact ⟨by simp [h],rfl⟩
 · have h':(n !=0)=true:=by simpa using h
   go_wp2_with fail
   refine Calls.mono (strContains_calls _ _ _) ?_
   rintro e w' ⟨rfl,rfl⟩
   go_wp2_with fail
   go_ret
   exact ⟨by simp [h],rfl⟩
theorem ix0_106:decide (0≤Lib.indexByte [] 106)=false:=by kernel_rfl
theorem ix0_101:decide (0≤Lib.indexByte [] 101)=false:=by kernel_rfl
theorem ix0_116:decide (0≤Lib.indexByte [] 116)=false:=by kernel_rfl
theorem ix0_99:decide (0≤Lib.indexByte [] 99)=false:=by kernel_rfl
theorem ix1_106:decide (0≤Lib.indexByte [106,101,116] 106)=true:=by kernel_rfl
theorem ix1_101:decide (0≤Lib.indexByte [106,101,116] 101)=true:=by kernel_rfl
theorem ix1_116:decide (0≤Lib.indexByte [106,101,116] 116)=true:=by kernel_rfl
theorem ix1_99:decide (0≤Lib.indexByte [106,101,116] 99)=false:=by kernel_rfl
theorem ix2_106:decide (0≤Lib.indexByte [106] 106)=true:=by kernel_rfl
theorem ix2_101:decide (0≤Lib.indexByte [106] 101)=false:=by kernel_rfl
theorem ix2_116:decide (0≤Lib.indexByte [106] 116)=false:=by kernel_rfl
theorem ix2_99:decide (0≤Lib.indexByte [106] 99)=false:=by kernel_rfl
theorem ix3_106:decide (0≤Lib.indexByte [106,116,99] 106)=true:=by kernel_rfl
theorem ix3_101:decide (0≤Lib.indexByte [106,116,99] 101)=false:=by kernel_rfl
theorem ix3_116:decide (0≤Lib.indexByte [106,116,99] 116)=true:=by kernel_rfl
theorem ix3_99:decide (0≤Lib.indexByte [106,116,99] 99)=true:=by kernel_rfl
set_option maxHeartbeats 8000000 in
set_option maxRecDepth 100000 in
theorem RCE_calls (k j v t c : Int) (w : World) :
    Calls Tryz.prog 46 #[.agg #[.int .i64 k,.int .i64 j,.int .i64 v,.int .i64 t,.int .i64 c]] w fun e w'=>e=.returned (.int .i64 (checkE ⟨k,j,v,t,c⟩))∧Below w.heap.size w w':=by
 obtain ⟨r,hr⟩:∃ r,r=checkE ⟨k,j,v,t,c⟩:=⟨_,rfl⟩
 rw [← hr]
 have HR:=Lib.hid hr
 clear hr
 by_cases hk:0≤k∧k≤3
 · by_cases hrange:0≤j∧j≤5∧0≤v∧v≤100∧0≤t∧t≤100000∧0≤c∧c≤2
   · have hin:(decide (0≤k) && decide (k≤3))=true∧(decide (0≤j) && decide (j≤5))=true∧(decide (0≤v) && decide (v≤100))=true∧(decide (0≤t) && decide (t≤100000))=true∧(decide (0≤c) && decide (c≤2))=true:=by simp;omega
     obtain ⟨i1,i2,i3,i4,i5⟩:=hin
     have hk':k=0∨k=1∨k=2∨k=3:=by omega
     have HN:=Lib.hid hrange
     clear hk hrange
     rcases hk' with rfl | rfl | rfl | rfl
     · clear i1
       go_enter Tryz.func46,Tryz.ntmps46
       go_wp2_with (first
        | (go_at_call 17;refine Calls.mono (in_calls _ _ _ _) ?_;rintro e w' ⟨rfl,rfl⟩;first | rw [i2] | rw [i3] | rw [i4] | rw [i5] | skip))
       have hq:(((w.alloc (Obj.cells #[.int .i64 0,.int .i64 j,.int .i64 v,.int .i64 t,.int .i64 c] 46)).alloc (Obj.cells #[.string ⟨#[]⟩,.string ⟨#[106,101,116]⟩,.string ⟨#[106]⟩,.string ⟨#[106,116,99]⟩] 9)).alloc (Obj.cells #[.string ⟨#[]⟩] 9)).cell? ⟨w.heap.size+1+1,0,none⟩=some (.string ⟨#[]⟩):=by simp [go_sem]
       have b0:(((w.alloc (Obj.cells #[.int .i64 0,.int .i64 j,.int .i64 v,.int .i64 t,.int .i64 c] 46)).alloc (Obj.cells #[.string ⟨#[]⟩,.string ⟨#[106,101,116]⟩,.string ⟨#[106]⟩,.string ⟨#[106,116,99]⟩] 9)).alloc (Obj.cells #[.string ⟨#[]⟩] 9)).cell? ⟨w.heap.size,0,none⟩=some (.int .i64 0):=by simp [go_sem]
       have b1:(((w.alloc (Obj.cells #[.int .i64 0,.int .i64 j,.int .i64 v,.int .i64 t,.int .i64 c] 46)).alloc (Obj.cells #[.string ⟨#[]⟩,.string ⟨#[106,101,116]⟩,.string ⟨#[106]⟩,.string ⟨#[106,116,99]⟩] 9)).alloc (Obj.cells #[.string ⟨#[]⟩] 9)).cell? ⟨w.heap.size,1,none⟩=some (.int .i64 j):=by simp [go_sem]
       have b2:(((w.alloc (Obj.cells #[.int .i64 0,.int .i64 j,.int .i64 v,.int .i64 t,.int .i64 c] 46)).alloc (Obj.cells #[.string ⟨#[]⟩,.string ⟨#[106,101,116]⟩,.string ⟨#[106]⟩,.string ⟨#[106,116,99]⟩] 9)).alloc (Obj.cells #[.string ⟨#[]⟩] 9)).cell? ⟨w.heap.size,2,none⟩=some (.int .i64 v):=by simp [go_sem]
       have b3:(((w.alloc (Obj.cells #[.int .i64 0,.int .i64 j,.int .i64 v,.int .i64 t,.int .i64 c] 46)).alloc (Obj.cells #[.string ⟨#[]⟩,.string ⟨#[106,101,116]⟩,.string ⟨#[106]⟩,.string ⟨#[106,116,99]⟩] 9)).alloc (Obj.cells #[.string ⟨#[]⟩] 9)).cell? ⟨w.heap.size,3,none⟩=some (.int .i64 t):=by simp [go_sem]
       have b4:(((w.alloc (Obj.cells #[.int .i64 0,.int .i64 j,.int .i64 v,.int .i64 t,.int .i64 c] 46)).alloc (Obj.cells #[.string ⟨#[]⟩,.string ⟨#[106,101,116]⟩,.string ⟨#[106]⟩,.string ⟨#[106,116,99]⟩] 9)).alloc (Obj.cells #[.string ⟨#[]⟩] 9)).cell? ⟨w.heap.size,4,none⟩=some (.int .i64 c):=by simp [go_sem]
       have hb:Below w.heap.size w (((w.alloc (Obj.cells #[.int .i64 0,.int .i64 j,.int .i64 v,.int .i64 t,.int .i64 c] 46)).alloc (Obj.cells #[.string ⟨#[]⟩,.string ⟨#[106,101,116]⟩,.string ⟨#[106]⟩,.string ⟨#[106,116,99]⟩] 9)).alloc (Obj.cells #[.string ⟨#[]⟩] 9)):=(((Below.refl _ _).alloc (Nat.le_refl _) _).alloc (by simp) _).alloc (by simp;omega) _
       change Calls _ _ _ (((w.alloc (Obj.cells #[.int .i64 0,.int .i64 j,.int .i64 v,.int .i64 t,.int .i64 c] 46)).alloc (Obj.cells #[.string ⟨#[]⟩,.string ⟨#[106,101,116]⟩,.string ⟨#[106]⟩,.string ⟨#[106,116,99]⟩] 9)).alloc (Obj.cells #[.string ⟨#[]⟩] 9)) _
       generalize (((w.alloc (Obj.cells #[.int .i64 0,.int .i64 j,.int .i64 v,.int .i64 t,.int .i64 c] 46)).alloc (Obj.cells #[.string ⟨#[]⟩,.string ⟨#[106,101,116]⟩,.string ⟨#[106]⟩,.string ⟨#[106,116,99]⟩] 9)).alloc (Obj.cells #[.string ⟨#[]⟩] 9))=w3 at hq b0 b1 b2 b3 b4 hb ⊢
       clear i2 i3 i4 i5
       go_wp2_with (first
        | (go_at_call 72;refine Calls.mono (CE1_calls _ _ _ _ _ hq) ?_;rintro e w' ⟨rfl,rfl⟩;simp only [List.toList_toArray,ix0_106,ix0_101,ix0_116,ix0_99,Bool.not_true,Bool.not_false,Bool.and_false,Bool.and_true]))
       all_goals
        go_ret
        refine ⟨ret_int ?_,hb⟩
        rw [HR.out]
        have hN:=HN.out
        clear HR HN hq b0 b1 b2 b3 b4 hb
        (try simp only [beq_iff_eq,beq_eq_false_iff_ne,bne_iff_ne,bne_eq_false_iff_eq,ne_eq,Bool.or_eq_true,Bool.or_eq_false_iff,Bool.and_eq_true,Bool.and_eq_false_iff] at *)
        unfold checkE
        dsimp only
        (repeat' split) <;> first | omega | trace_state
     · clear i1
       go_enter Tryz.func46,Tryz.ntmps46
       go_wp2_with (first
        | (go_at_call 17;refine Calls.mono (in_calls _ _ _ _) ?_;rintro e w' ⟨rfl,rfl⟩;first | rw [i2] | rw [i3] | rw [i4] | rw [i5] | skip))
       have hq:(((w.alloc (Obj.cells #[.int .i64 1,.int .i64 j,.int .i64 v,.int .i64 t,.int .i64 c] 46)).alloc (Obj.cells #[.string ⟨#[]⟩,.string ⟨#[106,101,116]⟩,.string ⟨#[106]⟩,.string ⟨#[106,116,99]⟩] 9)).alloc (Obj.cells #[.string ⟨#[106,101,116]⟩] 9)).cell? ⟨w.heap.size+1+1,0,none⟩=some (.string ⟨#[106,101,116]⟩):=by simp [go_sem]
       have b0:(((w.alloc (Obj.cells #[.int .i64 1,.int .i64 j,.int .i64 v,.int .i64 t,.int .i64 c] 46)).alloc (Obj.cells #[.string ⟨#[]⟩,.string ⟨#[106,101,116]⟩,.string ⟨#[106]⟩,.string ⟨#[106,116,99]⟩] 9)).alloc (Obj.cells #[.string ⟨#[106,101,116]⟩] 9)).cell? ⟨w.heap.size,0,none⟩=some (.int .i64 1):=by simp [go_sem]
       have b1:(((w.alloc (Obj.cells #[.int .i64 1,.int .i64 j,.int .i64 v,.int .i64 t,.int .i64 c] 46)).alloc (Obj.cells #[.string ⟨#[]⟩,.string ⟨#[106,101,116]⟩,.string ⟨#[106]⟩,.string ⟨#[106,116,99]⟩] 9)).alloc (Obj.cells #[.string ⟨#[106,101,116]⟩] 9)).cell? ⟨w.heap.size,1,none⟩=some (.int .i64 j):=by simp [go_sem]
       have b2:(((w.alloc (Obj.cells #[.int .i64 1,.int .i64 j,.int .i64 v,.int .i64 t,.int .i64 c] 46)).alloc (Obj.cells #[.string ⟨#[]⟩,.string ⟨#[106,101,116]⟩,.string ⟨#[106]⟩,.string ⟨#[106,116,99]⟩] 9)).alloc (Obj.cells #[.string ⟨#[106,101,116]⟩] 9)).cell? ⟨w.heap.size,2,none⟩=some (.int .i64 v):=by simp [go_sem]
       have b3:(((w.alloc (Obj.cells #[.int .i64 1,.int .i64 j,.int .i64 v,.int .i64 t,.int .i64 c] 46)).alloc (Obj.cells #[.string ⟨#[]⟩,.string ⟨#[106,101,116]⟩,.string ⟨#[106]⟩,.string ⟨#[106,116,99]⟩] 9)).alloc (Obj.cells #[.string ⟨#[106,101,116]⟩] 9)).cell? ⟨w.heap.size,3,none⟩=some (.int .i64 t):=by simp [go_sem]
       have b4:(((w.alloc (Obj.cells #[.int .i64 1,.int .i64 j,.int .i64 v,.int .i64 t,.int .i64 c] 46)).alloc (Obj.cells #[.string ⟨#[]⟩,.string ⟨#[106,101,116]⟩,.string ⟨#[106]⟩,.string ⟨#[106,116,99]⟩] 9)).alloc (Obj.cells #[.string ⟨#[106,101,116]⟩] 9)).cell? ⟨w.heap.size,4,none⟩=some (.int .i64 c):=by simp [go_sem]
       have hb:Below w.heap.size w (((w.alloc (Obj.cells #[.int .i64 1,.int .i64 j,.int .i64 v,.int .i64 t,.int .i64 c] 46)).alloc (Obj.cells #[.string ⟨#[]⟩,.string ⟨#[106,101,116]⟩,.string ⟨#[106]⟩,.string ⟨#[106,116,99]⟩] 9)).alloc (Obj.cells #[.string ⟨#[106,101,116]⟩] 9)):=(((Below.refl _ _).alloc (Nat.le_refl _) _).alloc (by simp) _).alloc (by simp;omega) _
       change Calls _ _ _ (((w.alloc (Obj.cells #[.int .i64 1,.int .i64 j,.int .i64 v,.int .i64 t,.int .i64 c] 46)).alloc (Obj.cells #[.string ⟨#[]⟩,.string ⟨#[106,101,116]⟩,.string ⟨#[106]⟩,.string ⟨#[106,116,99]⟩] 9)).alloc (Obj.cells #[.string ⟨#[106,101,116]⟩] 9)) _
       generalize (((w.alloc (Obj.cells #[.int .i64 1,.int .i64 j,.int .i64 v,.int .i64 t,.int .i64 c] 46)).alloc (Obj.cells #[.string ⟨#[]⟩,.string ⟨#[106,101,116]⟩,.string ⟨#[106]⟩,.string ⟨#[106,116,99]⟩] 9)).alloc (Obj.cells #[.string ⟨#[106,101,116]⟩] 9))=w3 at hq b0 b1 b2 b3 b4 hb ⊢
       clear i2 i3 i4 i5
       go_wp2_with (first
        | (go_at_call 72;refine Calls.mono (CE1_calls _ _ _ _ _ hq) ?_;rintro e w' ⟨rfl,rfl⟩;simp only [List.toList_toArray,ix1_106,ix1_101,ix1_116,ix1_99,Bool.not_true,Bool.not_false,Bool.and_false,Bool.and_true]))
       all_goals
        go_ret
        refine ⟨ret_int ?_,hb⟩
        rw [HR.out]
        have hN:=HN.out
        clear HR HN hq b0 b1 b2 b3 b4 hb
        (try simp only [beq_iff_eq,beq_eq_false_iff_ne,bne_iff_ne,bne_eq_false_iff_eq,ne_eq,Bool.or_eq_true,Bool.or_eq_false_iff,Bool.and_eq_true,Bool.and_eq_false_iff] at *)
        unfold checkE
        dsimp only
        (repeat' split) <;> first | omega | trace_state
     · clear i1
       go_enter Tryz.func46,Tryz.ntmps46
       go_wp2_with (first
        | (go_at_call 17;refine Calls.mono (in_calls _ _ _ _) ?_;rintro e w' ⟨rfl,rfl⟩;first | rw [i2] | rw [i3] | rw [i4] | rw [i5] | skip))
       have hq:(((w.alloc (Obj.cells #[.int .i64 2,.int .i64 j,.int .i64 v,.int .i64 t,.int .i64 c] 46)).alloc (Obj.cells #[.string ⟨#[]⟩,.string ⟨#[106,101,116]⟩,.string ⟨#[106]⟩,.string ⟨#[106,116,99]⟩] 9)).alloc (Obj.cells #[.string ⟨#[106]⟩] 9)).cell? ⟨w.heap.size+1+1,0,none⟩=some (.string ⟨#[106]⟩):=by simp [go_sem]
       have b0:(((w.alloc (Obj.cells #[.int .i64 2,.int .i64 j,.int .i64 v,.int .i64 t,.int .i64 c] 46)).alloc (Obj.cells #[.string ⟨#[]⟩,.string ⟨#[106,101,116]⟩,.string ⟨#[106]⟩,.string ⟨#[106,116,99]⟩] 9)).alloc (Obj.cells #[.string ⟨#[106]⟩] 9)).cell? ⟨w.heap.size,0,none⟩=some (.int .i64 2):=by simp [go_sem]
       have b1:(((w.alloc (Obj.cells #[.int .i64 2,.int .i64 j,.int .i64 v,.int .i64 t,.int .i64 c] 46)).alloc (Obj.cells #[.string ⟨#[]⟩,.string ⟨#[106,101,116]⟩,.string ⟨#[106]⟩,.string ⟨#[106,116,99]⟩] 9)).alloc (Obj.cells #[.string ⟨#[106]⟩] 9)).cell? ⟨w.heap.size,1,none⟩=some (.int .i64 j):=by simp [go_sem]
       have b2:(((w.alloc (Obj.cells #[.int .i64 2,.int .i64 j,.int .i64 v,.int .i64 t,.int .i64 c] 46)).alloc (Obj.cells #[.string ⟨#[]⟩,.string ⟨#[106,101,116]⟩,.string ⟨#[106]⟩,.string ⟨#[106,116,99]⟩] 9)).alloc (Obj.cells #[.string ⟨#[106]⟩] 9)).cell? ⟨w.heap.size,2,none⟩=some (.int .i64 v):=by simp [go_sem]
       have b3:(((w.alloc (Obj.cells #[.int .i64 2,.int .i64 j,.int .i64 v,.int .i64 t,.int .i64 c] 46)).alloc (Obj.cells #[.string ⟨#[]⟩,.string ⟨#[106,101,116]⟩,.string ⟨#[106]⟩,.string ⟨#[106,116,99]⟩] 9)).alloc (Obj.cells #[.string ⟨#[106]⟩] 9)).cell? ⟨w.heap.size,3,none⟩=some (.int .i64 t):=by simp [go_sem]
       have b4:(((w.alloc (Obj.cells #[.int .i64 2,.int .i64 j,.int .i64 v,.int .i64 t,.int .i64 c] 46)).alloc (Obj.cells #[.string ⟨#[]⟩,.string ⟨#[106,101,116]⟩,.string ⟨#[106]⟩,.string ⟨#[106,116,99]⟩] 9)).alloc (Obj.cells #[.string ⟨#[106]⟩] 9)).cell? ⟨w.heap.size,4,none⟩=some (.int .i64 c):=by simp [go_sem]
       have hb:Below w.heap.size w (((w.alloc (Obj.cells #[.int .i64 2,.int .i64 j,.int .i64 v,.int .i64 t,.int .i64 c] 46)).alloc (Obj.cells #[.string ⟨#[]⟩,.string ⟨#[106,101,116]⟩,.string ⟨#[106]⟩,.string ⟨#[106,116,99]⟩] 9)).alloc (Obj.cells #[.string ⟨#[106]⟩] 9)):=(((Below.refl _ _).alloc (Nat.le_refl _) _).alloc (by simp) _).alloc (by simp;omega) _
       change Calls _ _ _ (((w.alloc (Obj.cells #[.int .i64 2,.int .i64 j,.int .i64 v,.int .i64 t,.int .i64 c] 46)).alloc (Obj.cells #[.string ⟨#[]⟩,.string ⟨#[106,101,116]⟩,.string ⟨#[106]⟩,.string ⟨#[106,116,99]⟩] 9)).alloc (Obj.cells #[.string ⟨#[106]⟩] 9)) _
       generalize (((w.alloc (Obj.cells #[.int .i64 2,.int .i64 j,.int .i64 v,.int .i64 t,.int .i64 c] 46)).alloc (Obj.cells #[.string ⟨#[]⟩,.string ⟨#[106,101,116]⟩,.string ⟨#[106]⟩,.string ⟨#[106,116,99]⟩] 9)).alloc (Obj.cells #[.string ⟨#[106]⟩] 9))=w3 at hq b0 b1 b2 b3 b4 hb ⊢
       clear i2 i3 i4 i5
       go_wp2_with (first
        | (go_at_call 72;refine Calls.mono (CE1_calls _ _ _ _ _ hq) ?_;rintro e w' ⟨rfl,rfl⟩;simp only [List.toList_toArray,ix2_106,ix2_101,ix2_116,ix2_99,Bool.not_true,Bool.not_false,Bool.and_false,Bool.and_true]))
       all_goals
        go_ret
        refine ⟨ret_int ?_,hb⟩
        rw [HR.out]
        have hN:=HN.out
        clear HR HN hq b0 b1 b2 b3 b4 hb
        (try simp only [beq_iff_eq,beq_eq_false_iff_ne,bne_iff_ne,bne_eq_false_iff_eq,ne_eq,Bool.or_eq_true,Bool.or_eq_false_iff,Bool.and_eq_true,Bool.and_eq_false_iff] at *)
        unfold checkE
        dsimp only
        (repeat' split) <;> first | omega | trace_state
     · clear i1
       go_enter Tryz.func46,Tryz.ntmps46
       go_wp2_with (first
        | (go_at_call 17;refine Calls.mono (in_calls _ _ _ _) ?_;rintro e w' ⟨rfl,rfl⟩;first | rw [i2] | rw [i3] | rw [i4] | rw [i5] | skip))
       have hq:(((w.alloc (Obj.cells #[.int .i64 3,.int .i64 j,.int .i64 v,.int .i64 t,.int .i64 c] 46)).alloc (Obj.cells #[.string ⟨#[]⟩,.string ⟨#[106,101,116]⟩,.string ⟨#[106]⟩,.string ⟨#[106,116,99]⟩] 9)).alloc (Obj.cells #[.string ⟨#[106,116,99]⟩] 9)).cell? ⟨w.heap.size+1+1,0,none⟩=some (.string ⟨#[106,116,99]⟩):=by simp [go_sem]
       have b0:(((w.alloc (Obj.cells #[.int .i64 3,.int .i64 j,.int .i64 v,.int .i64 t,.int .i64 c] 46)).alloc (Obj.cells #[.string ⟨#[]⟩,.string ⟨#[106,101,116]⟩,.string ⟨#[106]⟩,.string ⟨#[106,116,99]⟩] 9)).alloc (Obj.cells #[.string ⟨#[106,116,99]⟩] 9)).cell? ⟨w.heap.size,0,none⟩=some (.int .i64 3):=by simp [go_sem]
       have b1:(((w.alloc (Obj.cells #[.int .i64 3,.int .i64 j,.int .i64 v,.int .i64 t,.int .i64 c] 46)).alloc (Obj.cells #[.string ⟨#[]⟩,.string ⟨#[106,101,116]⟩,.string ⟨#[106]⟩,.string ⟨#[106,116,99]⟩] 9)).alloc (Obj.cells #[.string ⟨#[106,116,99]⟩] 9)).cell? ⟨w.heap.size,1,none⟩=some (.int .i64 j):=by simp [go_sem]
       have b2:(((w.alloc (Obj.cells #[.int .i64 3,.int .i64 j,.int .i64 v,.int .i64 t,.int .i64 c] 46)).alloc (Obj.cells #[.string ⟨#[]⟩,.string ⟨#[106,101,116]⟩,.string ⟨#[106]⟩,.string ⟨#[106,116,99]⟩] 9)).alloc (Obj.cells #[.string ⟨#[106,116,99]⟩] 9)).cell? ⟨w.heap.size,2,none⟩=some (.int .i64 v):=by simp [go_sem]
       have b3:(((w.alloc (Obj.cells #[.int .i64 3,.int .i64 j,.int .i64 v,.int .i64 t,.int .i64 c] 46)).alloc (Obj.cells #[.string ⟨#[]⟩,.string ⟨#[106,101,116]⟩,.string ⟨#[106]⟩,.string ⟨#[106,116,99]⟩] 9)).alloc (Obj.cells #[.string ⟨#[106,116,99]⟩] 9)).cell? ⟨w.heap.size,3,none⟩=some (.int .i64 t):=by simp [go_sem]
       have b4:(((w.alloc (Obj.cells #[.int .i64 3,.int .i64 j,.int .i64 v,.int .i64 t,.int .i64 c] 46)).alloc (Obj.cells #[.string ⟨#[]⟩,.string ⟨#[106,101,116]⟩,.string ⟨#[106]⟩,.string ⟨#[106,116,99]⟩] 9)).alloc (Obj.cells #[.string ⟨#[106,116,99]⟩] 9)).cell? ⟨w.heap.size,4,none⟩=some (.int .i64 c):=by simp [go_sem]
       have hb:Below w.heap.size w (((w.alloc (Obj.cells #[.int .i64 3,.int .i64 j,.int .i64 v,.int .i64 t,.int .i64 c] 46)).alloc (Obj.cells #[.string ⟨#[]⟩,.string ⟨#[106,101,116]⟩,.string ⟨#[106]⟩,.string ⟨#[106,116,99]⟩] 9)).alloc (Obj.cells #[.string ⟨#[106,116,99]⟩] 9)):=(((Below.refl _ _).alloc (Nat.le_refl _) _).alloc (by simp) _).alloc (by simp;omega) _
       change Calls _ _ _ (((w.alloc (Obj.cells #[.int .i64 3,.int .i64 j,.int .i64 v,.int .i64 t,.int .i64 c] 46)).alloc (Obj.cells #[.string ⟨#[]⟩,.string ⟨#[106,101,116]⟩,.string ⟨#[106]⟩,.string ⟨#[106,116,99]⟩] 9)).alloc (Obj.cells #[.string ⟨#[106,116,99]⟩] 9)) _
       generalize (((w.alloc (Obj.cells #[.int .i64 3,.int .i64 j,.int .i64 v,.int .i64 t,.int .i64 c] 46)).alloc (Obj.cells #[.string ⟨#[]⟩,.string ⟨#[106,101,116]⟩,.string ⟨#[106]⟩,.string ⟨#[106,116,99]⟩] 9)).alloc (Obj.cells #[.string ⟨#[106,116,99]⟩] 9))=w3 at hq b0 b1 b2 b3 b4 hb ⊢
       clear i2 i3 i4 i5
       go_wp2_with (first
        | (go_at_call 72;refine Calls.mono (CE1_calls _ _ _ _ _ hq) ?_;rintro e w' ⟨rfl,rfl⟩;simp only [List.toList_toArray,ix3_106,ix3_101,ix3_116,ix3_99,Bool.not_true,Bool.not_false,Bool.and_false,Bool.and_true]))
       all_goals
        go_ret
        refine ⟨ret_int ?_,hb⟩
        rw [HR.out]
        have hN:=HN.out
        clear HR HN hq b0 b1 b2 b3 b4 hb
        (try simp only [beq_iff_eq,beq_eq_false_iff_ne,bne_iff_ne,bne_eq_false_iff_eq,ne_eq,Bool.or_eq_true,Bool.or_eq_false_iff,Bool.and_eq_true,Bool.and_eq_false_iff] at *)
        unfold checkE
        dsimp only
        (repeat' split) <;> first | omega | trace_state
   · have i1:(decide (0≤k) && decide (k≤3))=true:=by simp;omega
     have HK:=Lib.hid hk;have HN:=Lib.hid hrange
     clear hk hrange
     go_enter Tryz.func46,Tryz.ntmps46
     go_wp2_with (first
      | (go_at_call 17;refine Calls.mono (in_calls _ _ _ _) ?_;rintro e w' ⟨rfl,rfl⟩;first | rw [i1] | skip)
      | (go_at_call 72;exfalso;have hN:=HN.out;clear HN;(try simp only [Bool.not_eq_true',Bool.not_eq_false',Bool.and_eq_true,Bool.and_eq_false_iff,decide_eq_true_eq,decide_eq_false_iff_not] at *);omega))
     all_goals
      first
      | (exfalso;have hN:=HN.out;clear HN;(try simp only [Bool.not_eq_true',Bool.not_eq_false',Bool.and_eq_true,Bool.and_eq_false_iff,decide_eq_true_eq,decide_eq_false_iff_not] at *);omega)
      | (go_ret;refine ⟨ret_int ?_,(Below.refl _ _).alloc (Nat.le_refl _) _⟩;rw [HR.out];have hK:=HK.out;have hN:=HN.out;clear HR HK HN;(try simp only [Bool.not_eq_true',Bool.not_eq_false',Bool.and_eq_true,Bool.and_eq_false_iff,decide_eq_true_eq,decide_eq_false_iff_not] at *);unfold checkE;dsimp only;(repeat' split) <;> omega)
      | trace_state
 · have i1:(decide (0≤k) && decide (k≤3))=false:=by simp;omega
   go_enter Tryz.func46,Tryz.ntmps46
   go_wp2_with (first
    | (go_at_call 17;refine Calls.mono (in_calls _ _ _ _) ?_;rintro e w' ⟨rfl,rfl⟩;rw [i1]))
   go_ret
   refine ⟨ret_int ?_,(Below.refl _ _).alloc (Nat.le_refl _) _⟩
   rw [HR.out]
   unfold checkE
   dsimp only
   rw [if_pos (by omega)]
end
section
open Go.RowKit
theorem blank_calls (w:World):Calls Tryz.prog 35 #[] w fun e w'=>e=.returned (.agg #[.int .i64 4,.int .i64 0,.int .i64 0,.int .i64 0,.int .i64 0])∧Onto w w':=by
 go_enter Tryz.func35,Tryz.ntmps35
 go_wp2
 refine bodyPost_ret (v:=.agg #[.int .i64 4,.int .i64 0,.int .i64 0,.int .i64 0,.int .i64 0]) (by simp [results,Tryz.results35,go_sem]) rfl ⟨rfl,?_⟩
 repeat (first | exact Below.refl _ _ | refine Below.alloc ?_ (by simp <;> omega) _ | refine Below.setCell ?_ (by simp) _)
theorem ne_false {x y:Entry} (h:x=y):(!(x.kind ==y.kind && x.job ==y.job && x.every ==y.every && x.time ==y.time && x.client ==y.client))=false:=by simp [h]
theorem ne_true {x y:Entry} (h:x≠y):(!(x.kind ==y.kind && x.job ==y.job && x.every ==y.every && x.time ==y.time && x.client ==y.client))=true:=by
 rw [Ne,entry_eq_iff] at h
 simp only [Bool.not_eq_true',Bool.and_eq_false_iff,beq_eq_false_iff_ne]
 omega
set_option maxHeartbeats 4000000 in
set_option maxRecDepth 100000 in
theorem RCU_calls (ep : Int) (A : Option Addr) (n c : Nat) (cs : List Entry) (w : World) (h : S w 5 A n (cs.map encE)) :
    Calls Tryz.prog 70 #[.agg #[.int .i64 ep,.slice A n c]] w fun e w'=>e=.returned (.int .i64 (checkU ep cs))∧Onto w w':=by
 have hl:cs.length=n:=by have:=h.len;simpa using this
 obtain ⟨r,hr⟩:∃ r,r=checkU ep cs:=⟨_,rfl⟩
 rw [← hr]
 unfold checkU at hr
 by_cases h1:ep<1∨20<ep
 · rw [if_pos h1] at hr
   subst hr
   have hd:(decide (1≤ep) && decide (ep≤20))=false:=by simp;omega
   clear h hl h1
   go_enter Tryz.func70,Tryz.ntmps70
   go_wp2_with (go_at_call 17;refine Calls.mono (in_calls _ _ _ _) ?_;rintro e w' ⟨rfl,rfl⟩;rw [hd])
   go_ret
   exact ⟨rfl,(Below.refl _ _).alloc (Nat.le_refl _) _⟩
 · rw [if_neg h1] at hr
   have hd:(decide (1≤ep) && decide (ep≤20))=true:=by simp;omega
   by_cases h60:n=60
   · rw [if_neg (by omega)] at hr
     have HR:=Lib.hid hr;have HL:=Lib.hid hl
     subst h60
     clear hr h1 hl
     go_enter Tryz.func70,Tryz.ntmps70
     have hne:=neqE
     go_wp2_with (go_at_call 17;refine Calls.mono (in_calls _ _ _ _) ?_;rintro e w' ⟨rfl,rfl⟩;rw [hd])
     go_loopw [17] (fun s wr=>∃ k:Nat,k≤60∧s=.int .i64 k∧Onto w wr∧Hid (checkCs cs=checkCs (cs.drop k))) (fun s _=>60 - (intOf s).toNat)
     case atStart=>exact ⟨0,by omega,rfl,(Below.refl _ _).alloc (Nat.le_refl _) _,by simp [Hid]⟩
     case round =>
      obtain ⟨k,hk,rfl,hbr,HK⟩:=hrel
      by_cases hlt:k<60
      · obtain ⟨b,off,x,rfl,hb,hx,c0,c1,c2,c3,c4⟩:=(h.onto hbr).atE hlt
        have HC:=Lib.hid (checkCs_at hx)
        have hal:Onto wr (wr.alloc (Obj.cells #[.int .i64 x.kind,.int .i64 x.job,.int .i64 x.every,.int .i64 x.time,.int .i64 x.client] 46)):=(Below.refl _ _).alloc (Nat.le_refl _) _
        clear hx
        go_wp2_with fail
        refine Calls.mono (RCE_calls x.kind x.job x.every x.time x.client _) ?_
        rintro e w2 ⟨rfl,hb2⟩
        have b0:w2.cell? ⟨wr.heap.size,0,none⟩=some (.int .i64 x.kind):=cellB hb2 (by simp [go_sem])
        have b1:w2.cell? ⟨wr.heap.size,1,none⟩=some (.int .i64 x.job):=cellB hb2 (by simp [go_sem])
        have b2:w2.cell? ⟨wr.heap.size,2,none⟩=some (.int .i64 x.every):=cellB hb2 (by simp [go_sem])
        have b3:w2.cell? ⟨wr.heap.size,3,none⟩=some (.int .i64 x.time):=cellB hb2 (by simp [go_sem])
        have b4:w2.cell? ⟨wr.heap.size,4,none⟩=some (.int .i64 x.client):=cellB hb2 (by simp [go_sem])
        obtain ⟨q,hq⟩:∃ q,q=checkE ⟨x.kind,x.job,x.every,x.time,x.client⟩:=⟨_,rfl⟩
        rw [← hq]
        have HQ:Hid (checkE x=q):=hq.symm
        have h2:=(Onto.to hbr hal).to hb2
        have k0:=onto_cell b0;have k1:=onto_cell b1;have k2:=onto_cell b2;have k3:=onto_cell b3;have k4:=onto_cell b4
        clear hq hb2 hal b0 b1 b2 b3 b4 c0 c1 c2 c3 c4
        go_wp2_with fail
        by_cases hq0:q=0
        · have hq1:(q !=0)=false:=by simp [hq0]
          have hstep:checkCs (cs.drop k)=checkCs (cs.drop (k+1)):=by
           rw [HC.out]
           by_cases hbl:x=blank
           · rw [if_pos hbl]
           · rw [if_neg hbl,if_neg (by rw [HQ.out];simp [hq0])]
          have HST:=Lib.hid hstep
          clear hstep hq0
          refine wp_region_onto (by kernel_rfl) (by kernel_rfl) ?_
          repeat (go_big_quiet_step ((first | (go_at_call 35;exact calls_onto (blank_calls _)))))
          refine wpQuiet_nil ?_
          intro w3 hb3
          have h3:=Onto.to h2 hb3
          clear k0 k1 k2 k3 k4 h2 hb3
          go_wp2_with fail
          go_roundw
          case measure=>simp [intOf] <;> omega
          case rel=>exact ⟨k+1,by omega,by go_num,h3,by show _=_;rw [HK.out,HST.out]⟩
        · have hq1:(q !=0)=true:=by simpa using hq0
          by_cases hbl:x=blank
          · have hd2:(!(x.kind ==4 && x.job ==0 && x.every ==0 && x.time ==0 && x.client ==0))=false:=ne_false hbl
            have hstep:checkCs (cs.drop k)=checkCs (cs.drop (k+1)):=by rw [HC.out,if_pos hbl]
            have HST:=Lib.hid hstep
            clear hstep hq0 hbl
            refine wp_region_onto (by kernel_rfl) (by kernel_rfl) ?_
            repeat (go_big_quiet_step ((first | (go_at_call 35;exact calls_onto (blank_calls _)))))
            refine wpQuiet_nil ?_
            intro w3 hb3
            have h3:=Onto.to h2 hb3
            clear k0 k1 k2 k3 k4 h2 hb3
            go_wp2_with fail
            go_roundw
            case measure=>simp [intOf] <;> omega
            case rel=>exact ⟨k+1,by omega,by go_num,h3,by show _=_;rw [HK.out,HST.out]⟩
          · have hd2:(!(x.kind ==4 && x.job ==0 && x.every ==0 && x.time ==0 && x.client ==0))=true:=ne_true hbl
            have hfin:q=r:=by rw [HR.out,HK.out,HC.out,if_neg hbl,if_pos (by rw [HQ.out];exact hq0),HQ.out]
            have HF:=Lib.hid hfin
            clear hfin hq0 hbl
            refine wp_region_onto (by kernel_rfl) (by kernel_rfl) ?_
            repeat (go_big_quiet_step ((first | (go_at_call 35;exact calls_onto (blank_calls _)))))
            refine wpQuiet_nil ?_
            intro w3 hb3
            have h3:=Onto.to h2 hb3
            clear k0 k1 k2 k3 k4 h2 hb3
            go_wp2_with fail
            go_ret
            exact ⟨ret_int HF.out,h3⟩
      · obtain rfl:k=60:=by omega
        have hfin:(0:Int)=r:=by rw [HR.out,HK.out,List.drop_eq_nil_of_le (by have:=HL.out;omega)];rfl
        have HF:=Lib.hid hfin
        clear hfin
        go_wp2_with fail
        go_ret
        exact ⟨ret_int HF.out,hbr⟩
   · have hnn:((n:Int) !=60)=true:=by simp;omega
     have hnn':¬ ((n:Int)=60):=by omega
     rw [if_pos (by omega)] at hr
     subst hr
     clear h h1 hl h60
     go_enter Tryz.func70,Tryz.ntmps70
     go_wp2_with (go_at_call 17;refine Calls.mono (in_calls _ _ _ _) ?_;rintro e w' ⟨rfl,rfl⟩;rw [hd])
     go_ret
     exact ⟨rfl,(Below.refl _ _).alloc (Nat.le_refl _) _⟩
set_option maxHeartbeats 4000000 in
set_option maxRecDepth 100000 in
theorem Within_calls (ep ep' : Int) (A A' : Option Addr) (c c' : Nat) (cs cs' : List Entry) (w : World) (h : S w 5 A 60 (cs.map encE)) (h' : S w 5 A' 60 (cs'.map encE)) (hok : ∀ x ∈ cs, okC x) :
    Calls Tryz.prog 22 #[.agg #[.int .i64 ep,.slice A 60 c],.agg #[.int .i64 ep',.slice A' 60 c']] w fun e w'=>e=.returned (.bool (decide (fitC cs' cs)))∧Onto w w':=by
 have HOK:=Lib.hid hok
 clear hok
 go_enter Tryz.func22,Tryz.ntmps22
 have hne:=neqE
 go_wp2_with fail
 have q1:((w.alloc (Obj.cells #[.int .i64 ep,.slice A 60 c] 51)).alloc (Obj.cells #[.int .i64 ep',.slice A' 60 c'] 51)).cell? ⟨w.heap.size+1,1,none⟩=some (.slice A' 60 c'):=by simp [go_sem]
 have h1:=(h.new (Obj.cells #[.int .i64 ep,.slice A 60 c] 51)).new (Obj.cells #[.int .i64 ep',.slice A' 60 c'] 51)
 have h1':=(h'.new (Obj.cells #[.int .i64 ep,.slice A 60 c] 51)).new (Obj.cells #[.int .i64 ep',.slice A' 60 c'] 51)
 have h01:Onto w ((w.alloc (Obj.cells #[.int .i64 ep,.slice A 60 c] 51)).alloc (Obj.cells #[.int .i64 ep',.slice A' 60 c'] 51)):=((Below.refl _ _).alloc (Nat.le_refl _) _).alloc (by simp) _
 go_loopw [10] (fun s wr=>∃ k:Nat,k≤60∧s=.int .i64 k∧Onto ((w.alloc (Obj.cells #[.int .i64 ep,.slice A 60 c] 51)).alloc (Obj.cells #[.int .i64 ep',.slice A' 60 c'] 51)) wr∧Hid (∀ j,j<k→(cellAt cs j).kind=4∨cellAt cs' j=cellAt cs j)) (fun s _=>60 - (intOf s).toNat)
 case atStart=>exact ⟨0,by omega,rfl,Below.refl _ _,fun j hj=>absurd hj (Nat.not_lt_zero _)⟩
 case round =>
  obtain ⟨k,hk,rfl,hbr,HJ⟩:=hrel
  have h02:=Onto.to h01 hbr
  by_cases hlt:k<60
  · obtain ⟨b1,off1,x,rfl,hz1,hx,c0,c1,c2,c3,c4⟩:=(S.onto h1 hbr).atE hlt
    obtain ⟨b2,off2,y,rfl,hz2,hy,d0,d1,d2,d3,d4⟩:=(S.onto h1' hbr).atE hlt
    have q2:=cellB hbr q1
    have hkk:(k:Int)<60:=by omega
    have hxm:=List.mem_of_getElem? hx
    have hox:=okC_kind (HOK.out x hxm)
    have HX:=Lib.hid (cellAt_eq hx);have HY:=Lib.hid (cellAt_eq hy)
    have hbA:Onto wr (wr.alloc (Obj.cells #[.int .i64 x.kind,.int .i64 x.job,.int .i64 x.every,.int .i64 x.time,.int .i64 x.client] 46)):=(Below.refl _ _).alloc (Nat.le_refl _) _
    have e0:(wr.alloc (Obj.cells #[.int .i64 x.kind,.int .i64 x.job,.int .i64 x.every,.int .i64 x.time,.int .i64 x.client] 46)).cell? ⟨wr.heap.size,0,none⟩=some (.int .i64 x.kind):=by simp [go_sem]
    have e1:(wr.alloc (Obj.cells #[.int .i64 x.kind,.int .i64 x.job,.int .i64 x.every,.int .i64 x.time,.int .i64 x.client] 46)).cell? ⟨wr.heap.size,1,none⟩=some (.int .i64 x.job):=by simp [go_sem]
    have e2:(wr.alloc (Obj.cells #[.int .i64 x.kind,.int .i64 x.job,.int .i64 x.every,.int .i64 x.time,.int .i64 x.client] 46)).cell? ⟨wr.heap.size,2,none⟩=some (.int .i64 x.every):=by simp [go_sem]
    have e3:(wr.alloc (Obj.cells #[.int .i64 x.kind,.int .i64 x.job,.int .i64 x.every,.int .i64 x.time,.int .i64 x.client] 46)).cell? ⟨wr.heap.size,3,none⟩=some (.int .i64 x.time):=by simp [go_sem]
    have e4:(wr.alloc (Obj.cells #[.int .i64 x.kind,.int .i64 x.job,.int .i64 x.every,.int .i64 x.time,.int .i64 x.client] 46)).cell? ⟨wr.heap.size,4,none⟩=some (.int .i64 x.client):=by simp [go_sem]
    have k0:=onto_cell e0;have k1:=onto_cell e1;have k2:=onto_cell e2;have k3:=onto_cell e3;have k4:=onto_cell e4
    have k5:=onto_cell (cellB hbA d0);have k6:=onto_cell (cellB hbA d1);have k7:=onto_cell (cellB hbA d2);have k8:=onto_cell (cellB hbA d3);have k9:=onto_cell (cellB hbA d4)
    have k10:=onto_cell (cellB hbA q2)
    clear hx hy hxm
    go_upto_region 4 with fail
    generalize wr.alloc (Obj.cells #[.int .i64 x.kind,.int .i64 x.job,.int .i64 x.every,.int .i64 x.time,.int .i64 x.client] 46)=w4 at *
    by_cases hbl:x=blank
    · have hd:(!(x.kind ==4 && x.job ==0 && x.every ==0 && x.time ==0 && x.client ==0))=false:=ne_false hbl
      have HB:=Lib.hid (hox.2.2.2 hbl)
      clear hox hbl
      refine wp_region_onto (by kernel_rfl) (by kernel_rfl) ?_
      repeat (go_big_quiet_step ((first | (go_at_call 35;exact calls_onto (blank_calls _)))))
      refine wpQuiet_nil ?_
      intro w3 hb3
      have h3:=Onto.to (Onto.to hbr hbA) hb3
      clear k0 k1 k2 k3 k4 k5 k6 k7 k8 k9 k10 hb3 e0 e1 e2 e3 e4 d0 d1 d2 d3 d4 c0 c1 c2 c3 c4 q2 hbA
      go_wp2_with fail
      go_roundw
      case measure=>simp [intOf] <;> omega
      case rel =>
       refine ⟨k+1,by omega,by go_num,h3,?_⟩
       show ∀ j,_
       intro j hj
       by_cases hjk:j=k
       · subst hjk;rw [HX.out];exact .inl HB.out
       · exact HJ.out j (by omega)
    · have hd:(!(x.kind ==4 && x.job ==0 && x.every ==0 && x.time ==0 && x.client ==0))=true:=ne_true hbl
      have HB:=Lib.hid (fun h4=>hbl (hox.2.2.1 h4))
      by_cases hxy:x=y
      · have hd2:(!(x.kind ==y.kind && x.job ==y.job && x.every ==y.every && x.time ==y.time && x.client ==y.client))=false:=ne_false hxy
        have HXY:=Lib.hid hxy
        clear hox hbl hxy
        refine wp_region_onto (by kernel_rfl) (by kernel_rfl) ?_
        repeat (go_big_quiet_step ((first | (go_at_call 35;exact calls_onto (blank_calls _)))))
        refine wpQuiet_nil ?_
        intro w3 hb3
        have h3:=Onto.to (Onto.to hbr hbA) hb3
        clear k0 k1 k2 k3 k4 k5 k6 k7 k8 k9 k10 hb3 e0 e1 e2 e3 e4 d0 d1 d2 d3 d4 c0 c1 c2 c3 c4 q2 hbA
        go_wp2_with fail
        go_roundw
        case measure=>simp [intOf] <;> omega
        case rel =>
         refine ⟨k+1,by omega,by go_num,h3,?_⟩
         show ∀ j,_
         intro j hj
         by_cases hjk:j=k
         · subst hjk;rw [HX.out,HY.out];exact .inr HXY.out.symm
         · exact HJ.out j (by omega)
      · have hd2:(!(x.kind ==y.kind && x.job ==y.job && x.every ==y.every && x.time ==y.time && x.client ==y.client))=true:=ne_true hxy
        have hfin:decide (fitC cs' cs)=false:=by
         refine decide_eq_false fun hf=>?_
         have:=hf k hlt
         rw [HX.out,HY.out] at this
         rcases this with e | e
         · exact HB.out e
         · exact hxy e.symm
        have HF:=Lib.hid hfin
        clear hox hbl hxy hfin
        refine wp_region_onto (by kernel_rfl) (by kernel_rfl) ?_
        repeat (go_big_quiet_step ((first | (go_at_call 35;exact calls_onto (blank_calls _)))))
        refine wpQuiet_nil ?_
        intro w3 hb3
        have h3:=Onto.to h01 (Onto.to (Onto.to hbr hbA) hb3)
        clear k0 k1 k2 k3 k4 k5 k6 k7 k8 k9 k10 hb3 e0 e1 e2 e3 e4 d0 d1 d2 d3 d4 c0 c1 c2 c3 c4 q2 hbA
        go_wp2_with fail
        go_ret
        exact ⟨ret_bool HF.out.symm,h3⟩
  · obtain rfl:k=60:=by omega
    have hfin:decide (fitC cs' cs)=true:=decide_eq_true HJ.out
    have HF:=Lib.hid hfin
    clear hfin
    go_wp2_with fail
    go_ret
    exact ⟨ret_bool HF.out.symm,h02⟩
end
section
open Go.RowKit
set_option maxHeartbeats 1000000 in
theorem RUSame_calls (ep ep' : Int) (A A' : Option Addr) (n c m d : Nat) (cs cs' : List Entry) (w : World) (h : S w 5 A n (cs.map encE)) (h' : S w 5 A' m (cs'.map encE)) (hn : n ≤ 9223372036854775807) :
    Calls Tryz.prog 21 #[.agg #[.int .i64 ep,.slice A n c],.agg #[.int .i64 ep',.slice A' m d]] w fun e w'=>e=.returned (.bool (decide ((⟨ep,cs⟩:Uni)=⟨ep',cs'⟩)))∧Onto w w':=by
 have HN:=Lib.hid hn
 clear hn
 by_cases hep:ep=ep'
 · have hd:(ep ==ep')=true:=by simpa using hep
   have hdec:decide (cs=cs')=decide ((⟨ep,cs⟩:Uni)=⟨ep',cs'⟩):=by subst hep;simp
   have HD:=Lib.hid hdec
   clear hdec hep
   go_enter Tryz.func21,Tryz.ntmps21
   go_wp2_with fail
   refine Calls.mono (EqualE_calls A A' n m c d _ cs cs' _ ((h.new _).new _) ((h'.new _).new _) HN.out) ?_
   rintro e w' ⟨rfl,q,rfl⟩
   rw [HD.out]
   clear h h'
   go_wp2_with fail
   go_ret
   refine ⟨ret_bool (by simp),?_⟩
   exact Onto.draws (((Below.refl _ _).alloc (Nat.le_refl _) _).alloc (by simp) _) q
 · have hd:(ep ==ep')=false:=by simpa using hep
   have hdec:decide ((⟨ep,cs⟩:Uni)=⟨ep',cs'⟩)=false:=by simp [hep]
   rw [hdec]
   clear h h' hep hdec
   go_enter Tryz.func21,Tryz.ntmps21
   go_wp2_with fail
   go_ret
   exact ⟨rfl,by first | exact ((Below.refl _ _).alloc (Nat.le_refl _) _).alloc (by simp) _ | exact Onto.draws (((Below.refl _ _).alloc (Nat.le_refl _) _).alloc (by simp) _) _⟩
set_option maxHeartbeats 4000000 in
set_option maxRecDepth 100000 in
theorem RTail_calls (ep : Int) (A : Option Addr) (n c : Nat) (cs : List Entry) (w : World) (h : S w 5 A n (cs.map encE)) (hn : n ≤ 1000000000000) :
    Calls Tryz.prog 36 #[.agg #[.int .i64 ep,.slice A n c]] w fun e w'=>e=.returned (.int .i64 (tailF cs:Nat))∧Onto w w':=by
 have hl:cs.length=n:=by have:=h.len;simpa using this
 have HL:=Lib.hid hl
 obtain ⟨fin,hfin⟩:∃ fin,fin=tailF cs:=⟨_,rfl⟩
 rw [← hfin]
 have HF:=Lib.hid hfin
 clear hl hfin
 go_enter Tryz.func36,Tryz.ntmps36
 go_wp2_with fail
 go_loopw [3,9] (fun s3 s wr=>∃ (k t:Nat),k≤n∧s=.int .i64 k∧s3=.int .i64 t∧Onto w wr∧Hid (t=tailF (cs.take k))) (fun _ s _=>n - (intOf s).toNat)
 case atStart=>exact ⟨0,0,Nat.zero_le _,rfl,rfl,(Below.refl _ _).alloc (Nat.le_refl _) _,rfl⟩
 case round =>
  obtain ⟨k,t,hk,rfl,rfl,hbr,HT⟩:=hrel
  by_cases hlt:k<n
  · obtain ⟨b,off,x,rfl,hb,hx,c0,c1,c2,c3,c4⟩:=(h.onto hbr).atE hlt
    have HX:=Lib.hid (tailF_take hx)
    have hal:Onto wr (wr.alloc (Obj.cells #[.int .i64 x.kind,.int .i64 x.job,.int .i64 x.every,.int .i64 x.time,.int .i64 x.client] 46)):=(Below.refl _ _).alloc (Nat.le_refl _) _
    clear hx
    by_cases h4:x.kind≠4
    · have hd:(x.kind !=4)=true:=by simpa using h4
      have hst:tailF (cs.take (k+1))=k+1:=by rw [HX.out,if_pos h4]
      have HST:=Lib.hid hst
      clear h4 hst
      go_wp2_with fail
      go_roundw
      case measure=>simp [intOf] <;> omega
      case rel=>exact ⟨k+1,k+1,by omega,by go_num,by go_num,Onto.to hbr hal,by show _=_;rw [HST.out]⟩
    · have hd:(x.kind !=4)=false:=by simpa using h4
      have hst:tailF (cs.take (k+1))=tailF (cs.take k):=by rw [HX.out,if_neg h4]
      have HST:=Lib.hid hst
      clear h4 hst
      go_wp2_with fail
      go_roundw
      case measure=>simp [intOf] <;> omega
      case rel=>exact ⟨k+1,t,by omega,by go_num,rfl,Onto.to hbr hal,by show _=_;rw [HST.out,HT.out]⟩
  · obtain rfl:k=n:=by omega
    have hfin:t=fin:=by rw [HT.out,HF.out,List.take_of_length_le (by rw [HL.out];omega)]
    subst hfin
    go_wp2_with fail
    go_ret
    exact ⟨rfl,hbr⟩
end
end Go.Proofs.YtidlffepdcldkaaGreatDoor
