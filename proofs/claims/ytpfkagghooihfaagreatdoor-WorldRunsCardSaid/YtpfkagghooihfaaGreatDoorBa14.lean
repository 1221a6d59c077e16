/- Part 14. -/
import Derived.Test.YtpfkagghooihfaaGreatDoorBa05
namespace Go.Proofs.YtpfkagghooihfaaGreatDoor
set_option linter.unusedSimpArgs false
set_option linter.unusedVariables false
set_option maxHeartbeats 8000000
set_option maxRecDepth 100000
open Go.Proofs.Tryz
open Go.RowKit
section
theorem aM (n a b : Int)(w : World) :
    Calls prog 18 #[n,a,b] w fun e w'=>e=.returned (.bool (decide (a≤n)&&decide (n≤b)))∧w=w':=by
 go_enter func18,ntmps18;by_cases h:a≤n
 · go_wp2;go_ret;exact⟨by simp[h],rfl⟩
 have h':decide (a≤n)=false:=by simpa using h
 go_wp2;go_ret;exact⟨by simp[h],rfl⟩
theorem pW (s : ByteArray)(c : UInt8)(n : Int)(q : Nat)(w : World)(hq : w.cell? ⟨q, 0, none⟩ = some (.string s)) :
    Calls prog 113 #[.string ⟨#[c]⟩,n,.pointer (some ⟨q,0,none⟩)] w fun e w'=>e=.returned (.bool ((n !=0) && !(decide (0≤Lib.indexByte s.data.toList c))))∧w=w':=by
 go_enter func113,ntmps113;by_cases h:n=0
 · have h':(n !=0)=false:=by simp[h]
   go_wp2_with fail;go_ret;exact⟨by simp[h],rfl⟩
 have h':(n !=0)=true:=by simpa using h
 go_wp2_with fail;refine Calls.mono (sC _ _ _) ?_;rintro e w'⟨rfl,rfl⟩;go_wp2_with fail;go_ret;exact⟨by simp[h],rfl⟩
theorem NY:decide (0≤Lib.indexByte [] 106)=false:=by kernel_rfl
theorem MT:decide (0≤Lib.indexByte [] 101)=false:=by kernel_rfl
theorem NX:decide (0≤Lib.indexByte [] 116)=false:=by kernel_rfl
theorem PN:decide (0≤Lib.indexByte [] 99)=false:=by kernel_rfl
theorem NC:decide (0≤Lib.indexByte [106,101,116] 106)=true:=by kernel_rfl
theorem MQ:decide (0≤Lib.indexByte [106,101,116] 101)=true:=by kernel_rfl
theorem MS:decide (0≤Lib.indexByte [106,101,116] 116)=true:=by kernel_rfl
theorem PB:decide (0≤Lib.indexByte [106,101,116] 99)=false:=by kernel_rfl
theorem MW:decide (0≤Lib.indexByte [106] 106)=true:=by kernel_rfl
theorem MK:decide (0≤Lib.indexByte [106] 101)=false:=by kernel_rfl
theorem NN:decide (0≤Lib.indexByte [106] 116)=false:=by kernel_rfl
theorem OU:decide (0≤Lib.indexByte [106] 99)=false:=by kernel_rfl
theorem OE:decide (0≤Lib.indexByte [106,116,99] 106)=true:=by kernel_rfl
theorem MV:decide (0≤Lib.indexByte [106,116,99] 101)=false:=by kernel_rfl
theorem MR:decide (0≤Lib.indexByte [106,116,99] 116)=true:=by kernel_rfl
theorem PF:decide (0≤Lib.indexByte [106,116,99] 99)=true:=by kernel_rfl
theorem eT (k j v t c : Int)(w : World) :
    Calls prog 74 #[.agg #[k,j,v,t,c]] w fun e w'=>e=.returned (.int .i64 (aG ⟨k,j,v,t,c⟩))∧Below w.heap.size w w':=by
 obtain⟨r,hr⟩:∃r,r=aG ⟨k,j,v,t,c⟩:=⟨_,rfl⟩
 rw[←hr];have HR:=aH hr;clear hr;by_cases hk:0≤k∧k≤3
 · by_cases hrange:0≤j∧j≤5∧0≤v∧v≤100∧0≤t∧t≤100000∧0≤c∧c≤2
   · have hin:(decide (0≤k)&&decide (k≤3))=true∧(decide (0≤j)&&decide (j≤5))=true∧(decide (0≤v)&&decide (v≤100))=true∧(decide (0≤t)&&decide (t≤100000))=true∧(decide (0≤c)&&decide (c≤2))=true:=by simp;omega
     obtain⟨i1,i2,i3,i4,i5⟩:=hin;have hk':k=0∨k=1∨k=2∨k=3:=by omega
     have HN:=aH hrange;clear hk hrange;rcases hk' with rfl|rfl|rfl|rfl
     · clear i1;go_enter func74,ntmps74
       go_wp2_with (first
        | (go_at_call 18;refine Calls.mono (aM _ _ _ _) ?_;rintro e w'⟨rfl,rfl⟩;first|rw[i2]|rw[i3]|rw[i4]|rw[i5]|skip))
       have hq:(((w.alloc (Obj.cells #[(),j,v,t,c] 27)).alloc (Obj.cells #[.string ⟨#[]⟩,.string ⟨#[106,101,116]⟩,.string ⟨#[106]⟩,.string ⟨#[106,116,99]⟩] 9)).alloc (Obj.cells #[.string ⟨#[]⟩] 9)).cell? ⟨w.heap.size+1+1,0,none⟩=some (.string ⟨#[]⟩):=by simp[go_sem]
       have b0:(((w.alloc (Obj.cells #[(),j,v,t,c] 27)).alloc (Obj.cells #[.string ⟨#[]⟩,.string ⟨#[106,101,116]⟩,.string ⟨#[106]⟩,.string ⟨#[106,116,99]⟩] 9)).alloc (Obj.cells #[.string ⟨#[]⟩] 9)).cell? ⟨w.heap.size,0,none⟩=some (.int .i64 0):=by simp[go_sem]
       have b1:(((w.alloc (Obj.cells #[(),j,v,t,c] 27)).alloc (Obj.cells #[.string ⟨#[]⟩,.string ⟨#[106,101,116]⟩,.string ⟨#[106]⟩,.string ⟨#[106,116,99]⟩] 9)).alloc (Obj.cells #[.string ⟨#[]⟩] 9)).cell? ⟨w.heap.size,1,none⟩=some (.int .i64 j):=by simp[go_sem]
       have b2:(((w.alloc (Obj.cells #[(),j,v,t,c] 27)).alloc (Obj.cells #[.string ⟨#[]⟩,.string ⟨#[106,101,116]⟩,.string ⟨#[106]⟩,.string ⟨#[106,116,99]⟩] 9)).alloc (Obj.cells #[.string ⟨#[]⟩] 9)).cell? ⟨w.heap.size,2,none⟩=some (.int .i64 v):=by simp[go_sem]
       have b3:(((w.alloc (Obj.cells #[(),j,v,t,c] 27)).alloc (Obj.cells #[.string ⟨#[]⟩,.string ⟨#[106,101,116]⟩,.string ⟨#[106]⟩,.string ⟨#[106,116,99]⟩] 9)).alloc (Obj.cells #[.string ⟨#[]⟩] 9)).cell? ⟨w.heap.size,3,none⟩=some (.int .i64 t):=by simp[go_sem]
       have b4:(((w.alloc (Obj.cells #[(),j,v,t,c] 27)).alloc (Obj.cells #[.string ⟨#[]⟩,.string ⟨#[106,101,116]⟩,.string ⟨#[106]⟩,.string ⟨#[106,116,99]⟩] 9)).alloc (Obj.cells #[.string ⟨#[]⟩] 9)).cell? ⟨w.heap.size,4,none⟩=some (.int .i64 c):=by simp[go_sem]
       have hb:Below w.heap.size w (((w.alloc (Obj.cells #[(),j,v,t,c] 27)).alloc (Obj.cells #[.string ⟨#[]⟩,.string ⟨#[106,101,116]⟩,.string ⟨#[106]⟩,.string ⟨#[106,116,99]⟩] 9)).alloc (Obj.cells #[.string ⟨#[]⟩] 9)):=(((Below.refl _ _).alloc (Nat.le_refl _) _).alloc (by simp) _).alloc (by simp;omega) _;change Calls _ _ _ (((w.alloc (Obj.cells #[(),j,v,t,c] 27)).alloc (Obj.cells #[.string ⟨#[]⟩,.string ⟨#[106,101,116]⟩,.string ⟨#[106]⟩,.string ⟨#[106,116,99]⟩] 9)).alloc (Obj.cells #[.string ⟨#[]⟩] 9)) _;generalize(((w.alloc (Obj.cells #[(),j,v,t,c] 27)).alloc (Obj.cells #[.string ⟨#[]⟩,.string ⟨#[106,101,116]⟩,.string ⟨#[106]⟩,.string ⟨#[106,116,99]⟩] 9)).alloc (Obj.cells #[.string ⟨#[]⟩] 9))=w3 at hq b0 b1 b2 b3 b4 hb⊢;clear i2 i3 i4 i5
       go_wp2_with (first
        | (go_at_call 113;refine Calls.mono (pW _ _ _ _ _ hq) ?_;rintro e w'⟨rfl,rfl⟩;simp only[List.toList_toArray,NY,MT,NX,PN,Bool.not_true,Bool.not_false,Bool.and_false,Bool.and_true]))
       all_goals
        go_ret;refine⟨aO ?_,hb⟩;rw[HR.out];have hN:=HN.out;clear HR HN hq b0 b1 b2 b3 b4 hb
        (try simp only[beq_iff_eq,beq_eq_false_iff_ne,bne_iff_ne,bne_eq_false_iff_eq,ne_eq,Bool.or_eq_true,Bool.or_eq_false_iff,Bool.and_eq_true,Bool.and_eq_false_iff]at *)
        unfold aG;dsimp only
        (repeat' split)<;>first|omega|trace_state
     · clear i1;go_enter func74,ntmps74
       go_wp2_with (first
        | (go_at_call 18;refine Calls.mono (aM _ _ _ _) ?_;rintro e w'⟨rfl,rfl⟩;first|rw[i2]|rw[i3]|rw[i4]|rw[i5]|skip))
       have hq:(((w.alloc (Obj.cells #[(1:Int),j,v,t,c] 27)).alloc (Obj.cells #[.string ⟨#[]⟩,.string ⟨#[106,101,116]⟩,.string ⟨#[106]⟩,.string ⟨#[106,116,99]⟩] 9)).alloc (Obj.cells #[.string ⟨#[106,101,116]⟩] 9)).cell? ⟨w.heap.size+1+1,0,none⟩=some (.string ⟨#[106,101,116]⟩):=by simp[go_sem]
       have b0:(((w.alloc (Obj.cells #[(1:Int),j,v,t,c] 27)).alloc (Obj.cells #[.string ⟨#[]⟩,.string ⟨#[106,101,116]⟩,.string ⟨#[106]⟩,.string ⟨#[106,116,99]⟩] 9)).alloc (Obj.cells #[.string ⟨#[106,101,116]⟩] 9)).cell? ⟨w.heap.size,0,none⟩=some (.int .i64 1):=by simp[go_sem]
       have b1:(((w.alloc (Obj.cells #[(1:Int),j,v,t,c] 27)).alloc (Obj.cells #[.string ⟨#[]⟩,.string ⟨#[106,101,116]⟩,.string ⟨#[106]⟩,.string ⟨#[106,116,99]⟩] 9)).alloc (Obj.cells #[.string ⟨#[106,101,116]⟩] 9)).cell? ⟨w.heap.size,1,none⟩=some (.int .i64 j):=by simp[go_sem]
       have b2:(((w.alloc (Obj.cells #[(1:Int),j,v,t,c] 27)).alloc (Obj.cells #[.string ⟨#[]⟩,.string ⟨#[106,101,116]⟩,.string ⟨#[106]⟩,.string ⟨#[106,116,99]⟩] 9)).alloc (Obj.cells #[.string ⟨#[106,101,116]⟩] 9)).cell? ⟨w.heap.size,2,none⟩=some (.int .i64 v):=by simp[go_sem]
       have b3:(((w.alloc (Obj.cells #[(1:Int),j,v,t,c] 27)).alloc (Obj.cells #[.string ⟨#[]⟩,.string ⟨#[106,101,116]⟩,.string ⟨#[106]⟩,.string ⟨#[106,116,99]⟩] 9)).alloc (Obj.cells #[.string ⟨#[106,101,116]⟩] 9)).cell? ⟨w.heap.size,3,none⟩=some (.int .i64 t):=by simp[go_sem]
       have b4:(((w.alloc (Obj.cells #[(1:Int),j,v,t,c] 27)).alloc (Obj.cells #[.string ⟨#[]⟩,.string ⟨#[106,101,116]⟩,.string ⟨#[106]⟩,.string ⟨#[106,116,99]⟩] 9)).alloc (Obj.cells #[.string ⟨#[106,101,116]⟩] 9)).cell? ⟨w.heap.size,4,none⟩=some (.int .i64 c):=by simp[go_sem]
       have hb:Below w.heap.size w (((w.alloc (Obj.cells #[(1:Int),j,v,t,c] 27)).alloc (Obj.cells #[.string ⟨#[]⟩,.string ⟨#[106,101,116]⟩,.string ⟨#[106]⟩,.string ⟨#[106,116,99]⟩] 9)).alloc (Obj.cells #[.string ⟨#[106,101,116]⟩] 9)):=(((Below.refl _ _).alloc (Nat.le_refl _) _).alloc (by simp) _).alloc (by simp;omega) _;change Calls _ _ _ (((w.alloc (Obj.cells #[(1:Int),j,v,t,c] 27)).alloc (Obj.cells #[.string ⟨#[]⟩,.string ⟨#[106,101,116]⟩,.string ⟨#[106]⟩,.string ⟨#[106,116,99]⟩] 9)).alloc (Obj.cells #[.string ⟨#[106,101,116]⟩] 9)) _;generalize(((w.alloc (Obj.cells #[(1:Int),j,v,t,c] 27)).alloc (Obj.cells #[.string ⟨#[]⟩,.string ⟨#[106,101,116]⟩,.string ⟨#[106]⟩,.string ⟨#[106,116,99]⟩] 9)).alloc (Obj.cells #[.string ⟨#[106,101,116]⟩] 9))=w3 at hq b0 b1 b2 b3 b4 hb⊢;clear i2 i3 i4 i5
       go_wp2_with (first
        | (go_at_call 113;refine Calls.mono (pW _ _ _ _ _ hq) ?_;rintro e w'⟨rfl,rfl⟩;simp only[List.toList_toArray,NC,MQ,MS,PB,Bool.not_true,Bool.not_false,Bool.and_false,Bool.and_true]))
       all_goals
        go_ret;refine⟨aO ?_,hb⟩;rw[HR.out];have hN:=HN.out;clear HR HN hq b0 b1 b2 b3 b4 hb
        (try simp only[beq_iff_eq,beq_eq_false_iff_ne,bne_iff_ne,bne_eq_false_iff_eq,ne_eq,Bool.or_eq_true,Bool.or_eq_false_iff,Bool.and_eq_true,Bool.and_eq_false_iff]at *)
        unfold aG;dsimp only
        (repeat' split)<;>first|omega|trace_state
     · clear i1;go_enter func74,ntmps74
       go_wp2_with (first
        | (go_at_call 18;refine Calls.mono (aM _ _ _ _) ?_;rintro e w'⟨rfl,rfl⟩;first|rw[i2]|rw[i3]|rw[i4]|rw[i5]|skip))
       have hq:(((w.alloc (Obj.cells #[(2:Int),j,v,t,c] 27)).alloc (Obj.cells #[.string ⟨#[]⟩,.string ⟨#[106,101,116]⟩,.string ⟨#[106]⟩,.string ⟨#[106,116,99]⟩] 9)).alloc (Obj.cells #[.string ⟨#[106]⟩] 9)).cell? ⟨w.heap.size+1+1,0,none⟩=some (.string ⟨#[106]⟩):=by simp[go_sem]
       have b0:(((w.alloc (Obj.cells #[(2:Int),j,v,t,c] 27)).alloc (Obj.cells #[.string ⟨#[]⟩,.string ⟨#[106,101,116]⟩,.string ⟨#[106]⟩,.string ⟨#[106,116,99]⟩] 9)).alloc (Obj.cells #[.string ⟨#[106]⟩] 9)).cell? ⟨w.heap.size,0,none⟩=some (.int .i64 2):=by simp[go_sem]
       have b1:(((w.alloc (Obj.cells #[(2:Int),j,v,t,c] 27)).alloc (Obj.cells #[.string ⟨#[]⟩,.string ⟨#[106,101,116]⟩,.string ⟨#[106]⟩,.string ⟨#[106,116,99]⟩] 9)).alloc (Obj.cells #[.string ⟨#[106]⟩] 9)).cell? ⟨w.heap.size,1,none⟩=some (.int .i64 j):=by simp[go_sem]
       have b2:(((w.alloc (Obj.cells #[(2:Int),j,v,t,c] 27)).alloc (Obj.cells #[.string ⟨#[]⟩,.string ⟨#[106,101,116]⟩,.string ⟨#[106]⟩,.string ⟨#[106,116,99]⟩] 9)).alloc (Obj.cells #[.string ⟨#[106]⟩] 9)).cell? ⟨w.heap.size,2,none⟩=some (.int .i64 v):=by simp[go_sem]
       have b3:(((w.alloc (Obj.cells #[(2:Int),j,v,t,c] 27)).alloc (Obj.cells #[.string ⟨#[]⟩,.string ⟨#[106,101,116]⟩,.string ⟨#[106]⟩,.string ⟨#[106,116,99]⟩] 9)).alloc (Obj.cells #[.string ⟨#[106]⟩] 9)).cell? ⟨w.heap.size,3,none⟩=some (.int .i64 t):=by simp[go_sem]
       have b4:(((w.alloc (Obj.cells #[(2:Int),j,v,t,c] 27)).alloc (Obj.cells #[.string ⟨#[]⟩,.string ⟨#[106,101,116]⟩,.string ⟨#[106]⟩,.string ⟨#[106,116,99]⟩] 9)).alloc (Obj.cells #[.string ⟨#[106]⟩] 9)).cell? ⟨w.heap.size,4,none⟩=some (.int .i64 c):=by simp[go_sem]
       have hb:Below w.heap.size w (((w.alloc (Obj.cells #[(2:Int),j,v,t,c] 27)).alloc (Obj.cells #[.string ⟨#[]⟩,.string ⟨#[106,101,116]⟩,.string ⟨#[106]⟩,.string ⟨#[106,116,99]⟩] 9)).alloc (Obj.cells #[.string ⟨#[106]⟩] 9)):=(((Below.refl _ _).alloc (Nat.le_refl _) _).alloc (by simp) _).alloc (by simp;omega) _;change Calls _ _ _ (((w.alloc (Obj.cells #[(2:Int),j,v,t,c] 27)).alloc (Obj.cells #[.string ⟨#[]⟩,.string ⟨#[106,101,116]⟩,.string ⟨#[106]⟩,.string ⟨#[106,116,99]⟩] 9)).alloc (Obj.cells #[.string ⟨#[106]⟩] 9)) _;generalize(((w.alloc (Obj.cells #[(2:Int),j,v,t,c] 27)).alloc (Obj.cells #[.string ⟨#[]⟩,.string ⟨#[106,101,116]⟩,.string ⟨#[106]⟩,.string ⟨#[106,116,99]⟩] 9)).alloc (Obj.cells #[.string ⟨#[106]⟩] 9))=w3 at hq b0 b1 b2 b3 b4 hb⊢;clear i2 i3 i4 i5
       go_wp2_with (first
        | (go_at_call 113;refine Calls.mono (pW _ _ _ _ _ hq) ?_;rintro e w'⟨rfl,rfl⟩;simp only[List.toList_toArray,MW,MK,NN,OU,Bool.not_true,Bool.not_false,Bool.and_false,Bool.and_true]))
       all_goals
        go_ret;refine⟨aO ?_,hb⟩;rw[HR.out];have hN:=HN.out;clear HR HN hq b0 b1 b2 b3 b4 hb
        (try simp only[beq_iff_eq,beq_eq_false_iff_ne,bne_iff_ne,bne_eq_false_iff_eq,ne_eq,Bool.or_eq_true,Bool.or_eq_false_iff,Bool.and_eq_true,Bool.and_eq_false_iff]at *)
        unfold aG;dsimp only
        (repeat' split)<;>first|omega|trace_state
     clear i1;go_enter func74,ntmps74
     go_wp2_with (first
      | (go_at_call 18;refine Calls.mono (aM _ _ _ _) ?_;rintro e w'⟨rfl,rfl⟩;first|rw[i2]|rw[i3]|rw[i4]|rw[i5]|skip))
     have hq:(((w.alloc (Obj.cells #[(3:Int),j,v,t,c] 27)).alloc (Obj.cells #[.string ⟨#[]⟩,.string ⟨#[106,101,116]⟩,.string ⟨#[106]⟩,.string ⟨#[106,116,99]⟩] 9)).alloc (Obj.cells #[.string ⟨#[106,116,99]⟩] 9)).cell? ⟨w.heap.size+1+1,0,none⟩=some (.string ⟨#[106,116,99]⟩):=by simp[go_sem]
     have b0:(((w.alloc (Obj.cells #[(3:Int),j,v,t,c] 27)).alloc (Obj.cells #[.string ⟨#[]⟩,.string ⟨#[106,101,116]⟩,.string ⟨#[106]⟩,.string ⟨#[106,116,99]⟩] 9)).alloc (Obj.cells #[.string ⟨#[106,116,99]⟩] 9)).cell? ⟨w.heap.size,0,none⟩=some (.int .i64 3):=by simp[go_sem]
     have b1:(((w.alloc (Obj.cells #[(3:Int),j,v,t,c] 27)).alloc (Obj.cells #[.string ⟨#[]⟩,.string ⟨#[106,101,116]⟩,.string ⟨#[106]⟩,.string ⟨#[106,116,99]⟩] 9)).alloc (Obj.cells #[.string ⟨#[106,116,99]⟩] 9)).cell? ⟨w.heap.size,1,none⟩=some (.int .i64 j):=by simp[go_sem]
     have b2:(((w.alloc (Obj.cells #[(3:Int),j,v,t,c] 27)).alloc (Obj.cells #[.string ⟨#[]⟩,.string ⟨#[106,101,116]⟩,.string ⟨#[106]⟩,.string ⟨#[106,116,99]⟩] 9)).alloc (Obj.cells #[.string ⟨#[106,116,99]⟩] 9)).cell? ⟨w.heap.size,2,none⟩=some (.int .i64 v):=by simp[go_sem]
     have b3:(((w.alloc (Obj.cells #[(3:Int),j,v,t,c] 27)).alloc (Obj.cells #[.string ⟨#[]⟩,.string ⟨#[106,101,116]⟩,.string ⟨#[106]⟩,.string ⟨#[106,116,99]⟩] 9)).alloc (Obj.cells #[.string ⟨#[106,116,99]⟩] 9)).cell? ⟨w.heap.size,3,none⟩=some (.int .i64 t):=by simp[go_sem]
     have b4:(((w.alloc (Obj.cells #[(3:Int),j,v,t,c] 27)).alloc (Obj.cells #[.string ⟨#[]⟩,.string ⟨#[106,101,116]⟩,.string ⟨#[106]⟩,.string ⟨#[106,116,99]⟩] 9)).alloc (Obj.cells #[.string ⟨#[106,116,99]⟩] 9)).cell? ⟨w.heap.size,4,none⟩=some (.int .i64 c):=by simp[go_sem]
     have hb:Below w.heap.size w (((w.alloc (Obj.cells #[(3:Int),j,v,t,c] 27)).alloc (Obj.cells #[.string ⟨#[]⟩,.string ⟨#[106,101,116]⟩,.string ⟨#[106]⟩,.string ⟨#[106,116,99]⟩] 9)).alloc (Obj.cells #[.string ⟨#[106,116,99]⟩] 9)):=(((Below.refl _ _).alloc (Nat.le_refl _) _).alloc (by simp) _).alloc (by simp;omega) _;change Calls _ _ _ (((w.alloc (Obj.cells #[(3:Int),j,v,t,c] 27)).alloc (Obj.cells #[.string ⟨#[]⟩,.string ⟨#[106,101,116]⟩,.string ⟨#[106]⟩,.string ⟨#[106,116,99]⟩] 9)).alloc (Obj.cells #[.string ⟨#[106,116,99]⟩] 9)) _;generalize(((w.alloc (Obj.cells #[(3:Int),j,v,t,c] 27)).alloc (Obj.cells #[.string ⟨#[]⟩,.string ⟨#[106,101,116]⟩,.string ⟨#[106]⟩,.string ⟨#[106,116,99]⟩] 9)).alloc (Obj.cells #[.string ⟨#[106,116,99]⟩] 9))=w3 at hq b0 b1 b2 b3 b4 hb⊢;clear i2 i3 i4 i5
     go_wp2_with (first
      | (go_at_call 113;refine Calls.mono (pW _ _ _ _ _ hq) ?_;rintro e w'⟨rfl,rfl⟩;simp only[List.toList_toArray,OE,MV,MR,PF,Bool.not_true,Bool.not_false,Bool.and_false,Bool.and_true]))
     all_goals
      go_ret;refine⟨aO ?_,hb⟩;rw[HR.out];have hN:=HN.out;clear HR HN hq b0 b1 b2 b3 b4 hb
      (try simp only[beq_iff_eq,beq_eq_false_iff_ne,bne_iff_ne,bne_eq_false_iff_eq,ne_eq,Bool.or_eq_true,Bool.or_eq_false_iff,Bool.and_eq_true,Bool.and_eq_false_iff]at *)
      unfold aG;dsimp only
      (repeat' split)<;>first|omega|trace_state
   have i1:(decide (0≤k)&&decide (k≤3))=true:=by simp;omega
   have HK:=aH hk;have HN:=aH hrange;clear hk hrange;go_enter func74,ntmps74
   go_wp2_with (first
    | (go_at_call 18;refine Calls.mono (aM _ _ _ _) ?_;rintro e w'⟨rfl,rfl⟩;first|rw[i1]|skip)
    | (go_at_call 113;exfalso;have hN:=HN.out;clear HN;(try simp only[Bool.not_eq_true',Bool.not_eq_false',Bool.and_eq_true,Bool.and_eq_false_iff,decide_eq_true_eq,decide_eq_false_iff_not]at *);omega))
   all_goals
    first
    | (exfalso;have hN:=HN.out;clear HN;(try simp only[Bool.not_eq_true',Bool.not_eq_false',Bool.and_eq_true,Bool.and_eq_false_iff,decide_eq_true_eq,decide_eq_false_iff_not]at *);omega)
    | (go_ret;refine⟨aO ?_,(Below.refl _ _).alloc (Nat.le_refl _) _⟩;rw[HR.out];have hK:=HK.out;have hN:=HN.out;clear HR HK HN;(try simp only[Bool.not_eq_true',Bool.not_eq_false',Bool.and_eq_true,Bool.and_eq_false_iff,decide_eq_true_eq,decide_eq_false_iff_not]at *);unfold aG;dsimp only;(repeat' split)<;>omega)
    |trace_state
 have i1:(decide (0≤k)&&decide (k≤3))=false:=by simp;omega
 go_enter func74,ntmps74
 go_wp2_with (first
  | (go_at_call 18;refine Calls.mono (aM _ _ _ _) ?_;rintro e w'⟨rfl,rfl⟩;rw[i1]))
 go_ret;refine⟨aO ?_,(Below.refl _ _).alloc (Nat.le_refl _) _⟩;rw[HR.out];unfold aG;dsimp only;rw[if_pos (by omega)]
end
end Go.Proofs.YtpfkagghooihfaaGreatDoor
