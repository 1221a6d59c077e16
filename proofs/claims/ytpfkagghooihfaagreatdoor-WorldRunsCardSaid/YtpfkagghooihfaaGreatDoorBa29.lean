/- Part 29. -/
import Derived.Test.YtpfkagghooihfaaGreatDoorBa26
import Derived.Test.YtpfkagghooihfaaGreatDoorBa23
import Derived.Test.YtpfkagghooihfaaGreatDoorBa17
import Derived.Test.YtpfkagghooihfaaGreatDoorBa24
namespace Go.Proofs.YtpfkagghooihfaaGreatDoor
set_option linter.unusedSimpArgs false
set_option linter.unusedVariables false
set_option maxHeartbeats 8000000
set_option maxRecDepth 100000
open Go.Proofs.Tryz
open Go.RowKit
section
attribute [local go_sem ↓] Go.wp_at_zero Go.wp_at_succ
def yV {α:Type}(p:α→α→Bool):List α→List α→Bool
 | [],[]=>true
 |a ::l,b ::l'=>p a b&&yV p l l'
 |_,_=>false
theorem BF {α:Type}{p:α→α→Bool}:∀ {l l':List α},l.length≠l'.length→yV p l l'=false
 | [],[],h=>absurd rfl h
 | [],_ ::_,_=>rfl
 |_ ::_,[],_=>rfl
 |a ::l,b ::l',h=>by rw[yV,BF (by simpa using h),Bool.and_false]
theorem sS {α β:Type} [DecidableEq β](f:α→β):∀l l':List α,yV (fun x y=>decide (f x=f y)) l l'=decide (l.map f=l'.map f)
 | [],[]=>by simp[yV]
 | [],_ ::_=>by simp[yV]
 |_ ::_,[]=>by simp[yV]
 |a ::l,b ::l'=>by rw[yV,sS f l l'];simp
theorem NV.In.small {w:World}{v:NV}(h:v.In w):v.n≤9223372036854775807:=by
 have h1:=h.le;have h2:=h.max;unfold maxLen at h2;omega
theorem DO (u v : NV)(w : World)(hu : u.In w)(hv : v.In w) :
    Calls prog 37 #[.agg #[u.x.u.ep,.slice u.A u.n u.c,.slice u.F u.k u.i,.slice u.G u.l u.j,.bool u.x.up],.agg #[v.x.u.ep,.slice v.A v.n v.c,.slice v.F v.k v.i,.slice v.G v.l v.j,.bool v.x.up]] w fun e w'=>e=.returned (.bool (decide (u.x=v.x)))∧aA w w':=by
 obtain⟨r,hr⟩:∃r,r=decide (u.x=v.x):=⟨_,rfl⟩
 rw[←hr]
 have hr2:r=(decide (u.x.up=v.x.up)&&(decide ((⟨u.x.u.ep,u.x.u.cells⟩:eM)=⟨v.x.u.ep,v.x.u.cells⟩)&&decide (u.x.d=v.x.d))):=by
  rw[hr];obtain⟨⟨a1,a2,a3⟩,_⟩:=u;obtain⟨⟨b1,b2,b3⟩,_⟩:=v;simp only[iC.mk.injEq];by_cases h1:a1=b1<;>by_cases h2:a2=b2<;>by_cases h3:a3=b3<;>simp[h1,h2,h3]
 have HR:=aH hr2;clear hr hr2;go_enter func37,ntmps37;go_upto_region 1 with fail
 have on:=((aA.Zz w).new (Obj.cells #[u.x.u.ep,.slice u.A u.n u.c,.slice u.F u.k u.i,.slice u.G u.l u.j,.bool u.x.up] 55)).new (Obj.cells #[v.x.u.ep,.slice v.A v.n v.c,.slice v.F v.k v.i,.slice v.G v.l v.j,.bool v.x.up] 55);have U:Bx ((w.alloc (Obj.cells #[u.x.u.ep,.slice u.A u.n u.c,.slice u.F u.k u.i,.slice u.G u.l u.j,.bool u.x.up] 55)).alloc (Obj.cells #[v.x.u.ep,.slice v.A v.n v.c,.slice v.F v.k v.i,.slice v.G v.l v.j,.bool v.x.up] 55)) w.heap.size [u.x.u.ep,.slice u.A u.n u.c,.slice u.F u.k u.i,.slice u.G u.l u.j,.bool u.x.up]:=(Bx.Zt _ _ _).new _;have V:Bx ((w.alloc (Obj.cells #[u.x.u.ep,.slice u.A u.n u.c,.slice u.F u.k u.i,.slice u.G u.l u.j,.bool u.x.up] 55)).alloc (Obj.cells #[v.x.u.ep,.slice v.A v.n v.c,.slice v.F v.k v.i,.slice v.G v.l v.j,.bool v.x.up] 55)) (w.heap.size+1) [v.x.u.ep,.slice v.A v.n v.c,.slice v.F v.k v.i,.slice v.G v.l v.j,.bool v.x.up]:=iT w _ #[v.x.u.ep,.slice v.A v.n v.c,.slice v.F v.k v.i,.slice v.G v.l v.j,.bool v.x.up] _;replace hu:=hu.oe on;replace hv:=hv.oe on
 try change Code.wp _ _ _ _ ((w.alloc (Obj.cells #[u.x.u.ep,.slice u.A u.n u.c,.slice u.F u.k u.i,.slice u.G u.l u.j,.bool u.x.up] 55)).alloc (Obj.cells #[v.x.u.ep,.slice v.A v.n v.c,.slice v.F v.k v.i,.slice v.G v.l v.j,.bool v.x.up] 55))
 generalize((w.alloc (Obj.cells #[u.x.u.ep,.slice u.A u.n u.c,.slice u.F u.k u.i,.slice u.G u.l u.j,.bool u.x.up] 55)).alloc (Obj.cells #[v.x.u.ep,.slice v.A v.n v.c,.slice v.F v.k v.i,.slice v.G v.l v.j,.bool v.x.up] 55))=w1 at *;generalize w.heap.size=z at *;obtain⟨a0,a1,a2,a3,a4⟩:=U.p5;obtain⟨b0,b1,b2,b3,b4⟩:=V.p5
 cases h1:decide (u.x.up=v.x.up)with
 |false =>
   have hrr:r=false:=by rw[HR.out,h1];rfl
   subst hrr;have hd:(u.x.up ==v.x.up)=false:=by simpa using h1
   clear h1 HR;go_wp2_with fail;go_ret;exact⟨rfl,on⟩
 |true =>
   have hrr:r=(decide ((⟨u.x.u.ep,u.x.u.cells⟩:eM)=⟨v.x.u.ep,v.x.u.cells⟩)&&decide (u.x.d=v.x.d)):=by rw[HR.out,h1];rfl
   have HR2:=aH hrr;have hd:(u.x.up ==v.x.up)=true:=by simpa using h1
   clear h1 HR hrr;go_wp2_with fail;refine Calls.mono (pB u.x.u.ep v.x.u.ep u.A v.A u.n u.c v.n v.c u.x.u.cells v.x.u.cells _ hu.cells hv.cells hu.small) ?_;rintro e w2⟨rfl,b⟩;replace U:=U.oe b;replace V:=V.oe b;replace hu:=hu.oe b;replace hv:=hv.oe b;replace on:=on.to b;clear a0 a1 a2 a3 a4 b0 b1 b2 b3 b4 b;have a2:=U.at_ 2 rfl;have a3:=U.at_ 3 rfl;have b2:=V.at_ 2 rfl;have b3:=V.at_ 3 rfl
   cases h2:decide ((⟨u.x.u.ep,u.x.u.cells⟩:eM)=⟨v.x.u.ep,v.x.u.cells⟩)with
   |false =>
     have hrr:r=false:=by rw[HR2.out,h2];rfl
     subst hrr;clear h2 HR2;go_wp2_with fail;go_ret;exact⟨rfl,on⟩
   |true =>
     have hrr:r=decide (u.x.d=v.x.d):=by rw[HR2.out,h2];rfl
     have HR3:=aH hrr;clear h2 HR2 hrr;go_wp2_with fail;refine Calls.mono (EV u.F u.G u.k u.i u.l u.j u.x.d v.F v.G v.k v.i v.l v.j v.x.d _ hu.disk hv.disk) ?_;rw[←HR3.out];rintro e w3⟨rfl,b⟩;replace on:=on.to b;go_wp2_with fail;go_ret;exact⟨by simp,on⟩
theorem mS (A A' : Option Addr)(n c m d : Nat)(l l' : List NV)(g : FuncId)(p : NV → NV → Bool)(w : World)(h : S w 5 A n (l.map bW))(h' : S w 5 A' m (l'.map bW))(hn : n ≤ 9223372036854775807)
    (eg:∀args w,(callFunc g args).run prog w=.ok (.enter g args) w)
    (hp:∀x∈l,∀y∈l',∀w',aA w w'→Calls prog g #[.agg #[x.x.u.ep,.slice x.A x.n x.c,.slice x.F x.k x.i,.slice x.G x.l x.j,.bool x.x.up],.agg #[y.x.u.ep,.slice y.A y.n y.c,.slice y.F y.k y.i,.slice y.G y.l y.j,.bool y.x.up]] w' fun e w''=>e=.returned (.bool (p x y))∧aA w' w'') :
    Calls prog 36 #[.slice A n c,.slice A' m d,.func (.func g) #[] #[]] w fun e w'=>e=.returned (.bool (yV p l l'))∧aA w w':=by
 have hp':=aH hp;have hl:l.length=n:=by have:=h.len;simpa using this
 have hl':l'.length=m:=by have:=h'.len;simpa using this
 have HL:=aH hl;have HL':=aH hl';clear hp hl hl';obtain⟨q,hq⟩:∃q,q=yV p l l':=⟨_,rfl⟩
 rw[←hq];have HQ:=aH hq;clear hq;by_cases hnm:n=m
 · subst hnm;have hd:((n:Int) !=(n:Int))=false:=by simp
   go_enter func36,ntmps36;go_wp2_with fail
   go_loopg [17] n (fun g0 s17 wr=>∃i:Nat,i≤n∧n-i≤g0∧s17=.int .i64 i∧aA w wr∧Hid (q=yV p (l.drop i) (l'.drop i)))
   case atStart=>exact⟨0,Nat.zero_le _,Nat.le_refl _,rfl,aA.Zz _,HQ⟩
   case round =>
    clear HQ;obtain⟨i,hi,hg,rfl,on,HQ⟩:=hrel;by_cases hlt:i<n
    · obtain⟨p0,q0,x,rfl,hb0,hx,hca⟩:=(h.oe on).at_ hlt;obtain⟨p1,q1,y,rfl,hb1,hy,hcb⟩:=(h'.oe on).at_ hlt;have a0:wr.cell? ⟨p0,q0+i*5,none⟩=some (.int .i64 x.x.u.ep):=hca 0 _ rfl;have a1:wr.cell? ⟨p0,q0+i*5+1,none⟩=some (.slice x.A x.n x.c):=hca 1 _ rfl;have a2:wr.cell? ⟨p0,q0+i*5+2,none⟩=some (.slice x.F x.k x.i):=hca 2 _ rfl;have a3:wr.cell? ⟨p0,q0+i*5+3,none⟩=some (.slice x.G x.l x.j):=hca 3 _ rfl;have a4:wr.cell? ⟨p0,q0+i*5+4,none⟩=some (.bool x.x.up):=hca 4 _ rfl;have b0:wr.cell? ⟨p1,q1+i*5,none⟩=some (.int .i64 y.x.u.ep):=hcb 0 _ rfl;have b1:wr.cell? ⟨p1,q1+i*5+1,none⟩=some (.slice y.A y.n y.c):=hcb 1 _ rfl;have b2:wr.cell? ⟨p1,q1+i*5+2,none⟩=some (.slice y.F y.k y.i):=hcb 2 _ rfl;have b3:wr.cell? ⟨p1,q1+i*5+3,none⟩=some (.slice y.G y.l y.j):=hcb 3 _ rfl;have b4:wr.cell? ⟨p1,q1+i*5+4,none⟩=some (.bool y.x.up):=hcb 4 _ rfl;have hmx:=List.mem_of_getElem? hx;have hmy:=List.mem_of_getElem? hy;have HX:=aH hx;have HY:=aH hy;clear hca hcb hx hy;go_upto_region 6 with fail
      refine aW (v1:=[x.x.u.ep,.slice x.A x.n x.c,.slice x.F x.k x.i,.slice x.G x.l x.j,.bool x.x.up]) rfl fun w6 ox X=>?_
      have b0:=aB ox b0;have b1:=aB ox b1;have b2:=aB ox b2;have b3:=aB ox b3;have b4:=aB ox b4;clear a0 a1 a2 a3 a4;generalize wr.heap.size=zx at *;go_upto_region 7 with fail
      refine aW (v1:=[y.x.u.ep,.slice y.A y.n y.c,.slice y.F y.k y.i,.slice y.G y.l y.j,.bool y.x.up]) rfl fun w7 oy Y=>?_
      have X:=X.oe oy;have on7:=(on.to ox).to oy;clear b0 b1 b2 b3 b4 ox oy;generalize w6.heap.size=zy at *;obtain⟨a0,a1,a2,a3,a4⟩:=X.p5;obtain⟨b0,b1,b2,b3,b4⟩:=Y.p5;go_wp2_with fail;refine Calls.mono (hp'.out x hmx y hmy _ on7) ?_;rintro e w8⟨rfl,b⟩;have on8:=on7.to b;clear X Y a0 b0 a1 b1 a2 b2 a3 b3 a4 b4 on on7 b
      have hst:yV p (l.drop i) (l'.drop i)=(p x y&&yV p (l.drop (i+1)) (l'.drop (i+1))):=by
       rw[List.drop_eq_getElem_cons (by have:=HL.out;omega),List.drop_eq_getElem_cons (l:=l') (by have:=HL'.out;omega),(List.getElem?_eq_some_iff.1 HX.out).2,(List.getElem?_eq_some_iff.1 HY.out).2];rfl
      have HS:=aH hst;clear hst
      cases hpx:p x y with
      |true =>
        have hq2:q=yV p (l.drop (i+1)) (l'.drop (i+1)):=by rw[HQ.out,HS.out,hpx];rfl
        have HQ2:=aH hq2;clear hq2 hpx HQ;go_wp2_with fail;go_roundg (n-(i+1))
        case measure=>omega
        case rel=>exact⟨i+1,by omega,Nat.le_refl _,by go_num,on8,HQ2⟩
      |false =>
        have hq2:q=false:=by rw[HQ.out,HS.out,hpx];rfl
        subst hq2;clear hpx;go_wp2_with fail;go_ret;exact⟨rfl,on8⟩
    obtain rfl:i=n:=by omega
    have hq2:q=true:=by
     rw[HQ.out,List.drop_eq_nil_of_le (by have:=HL.out;omega),List.drop_eq_nil_of_le (by have:=HL'.out;omega)];rfl
    subst hq2;go_wp2_with fail;go_ret;exact⟨rfl,on⟩
 have hq2:q=false:=by rw[HQ.out];exact BF (by rw[HL.out,HL'.out];exact hnm)
 subst hq2;have hd:((n:Int) !=(m:Int))=true:=by simp;omega
 clear HQ;go_enter func36,ntmps36;go_wp2_with fail;go_ret;exact⟨rfl,aA.Zz _⟩
theorem mP (A A' : Option Addr)(n c m d : Nat)(l l' : List CV)(g : FuncId)(p : CV → CV → Bool)(w : World)(h : S w 12 A n (l.map aE))(h' : S w 12 A' m (l'.map aE))(hn : n ≤ 9223372036854775807)
    (eg:∀args w,(callFunc g args).run prog w=.ok (.enter g args) w)
    (hp:∀x∈l,∀y∈l',∀w',aA w w'→Calls prog g #[.agg #[x.x.epoch,x.x.doing,x.x.e.kind,x.x.e.job,x.x.e.every,x.x.e.time,x.x.e.client,x.x.at_,x.x.link,x.x.played,.slice x.A x.n x.c,.slice x.G x.m x.d],.agg #[y.x.epoch,y.x.doing,y.x.e.kind,y.x.e.job,y.x.e.every,y.x.e.time,y.x.e.client,y.x.at_,y.x.link,y.x.played,.slice y.A y.n y.c,.slice y.G y.m y.d]] w' fun e w''=>e=.returned (.bool (p x y))∧aA w' w'') :
    Calls prog 34 #[.slice A n c,.slice A' m d,.func (.func g) #[] #[]] w fun e w'=>e=.returned (.bool (yV p l l'))∧aA w w':=by
 have hp':=aH hp;have hl:l.length=n:=by have:=h.len;simpa using this
 have hl':l'.length=m:=by have:=h'.len;simpa using this
 have HL:=aH hl;have HL':=aH hl';clear hp hl hl';obtain⟨q,hq⟩:∃q,q=yV p l l':=⟨_,rfl⟩
 rw[←hq];have HQ:=aH hq;clear hq;by_cases hnm:n=m
 · subst hnm;have hd:((n:Int) !=(n:Int))=false:=by simp
   go_enter func34,ntmps34;go_wp2_with fail
   go_loopg [17] n (fun g0 s17 wr=>∃i:Nat,i≤n∧n-i≤g0∧s17=.int .i64 i∧aA w wr∧Hid (q=yV p (l.drop i) (l'.drop i)))
   case atStart=>exact⟨0,Nat.zero_le _,Nat.le_refl _,rfl,aA.Zz _,HQ⟩
   case round =>
    clear HQ;obtain⟨i,hi,hg,rfl,on,HQ⟩:=hrel;by_cases hlt:i<n
    · obtain⟨p0,q0,x,rfl,hb0,hx,hca⟩:=(h.oe on).at_ hlt;obtain⟨p1,q1,y,rfl,hb1,hy,hcb⟩:=(h'.oe on).at_ hlt;have a0:wr.cell? ⟨p0,q0+i*12,none⟩=some (.int .i64 x.x.epoch):=hca 0 _ rfl;have a1:wr.cell? ⟨p0,q0+i*12+1,none⟩=some (.int .i64 x.x.doing):=hca 1 _ rfl;have a2:wr.cell? ⟨p0,q0+i*12+2,none⟩=some (.int .i64 x.x.e.kind):=hca 2 _ rfl;have a3:wr.cell? ⟨p0,q0+i*12+3,none⟩=some (.int .i64 x.x.e.job):=hca 3 _ rfl;have a4:wr.cell? ⟨p0,q0+i*12+4,none⟩=some (.int .i64 x.x.e.every):=hca 4 _ rfl;have a5:wr.cell? ⟨p0,q0+i*12+5,none⟩=some (.int .i64 x.x.e.time):=hca 5 _ rfl;have a6:wr.cell? ⟨p0,q0+i*12+6,none⟩=some (.int .i64 x.x.e.client):=hca 6 _ rfl;have a7:wr.cell? ⟨p0,q0+i*12+7,none⟩=some (.int .i64 x.x.at_):=hca 7 _ rfl;have a8:wr.cell? ⟨p0,q0+i*12+8,none⟩=some (.int .i64 x.x.link):=hca 8 _ rfl;have a9:wr.cell? ⟨p0,q0+i*12+9,none⟩=some (.int .i64 x.x.played):=hca 9 _ rfl;have a10:wr.cell? ⟨p0,q0+i*12+10,none⟩=some (.slice x.A x.n x.c):=hca 10 _ rfl;have a11:wr.cell? ⟨p0,q0+i*12+11,none⟩=some (.slice x.G x.m x.d):=hca 11 _ rfl;have b0:wr.cell? ⟨p1,q1+i*12,none⟩=some (.int .i64 y.x.epoch):=hcb 0 _ rfl;have b1:wr.cell? ⟨p1,q1+i*12+1,none⟩=some (.int .i64 y.x.doing):=hcb 1 _ rfl;have b2:wr.cell? ⟨p1,q1+i*12+2,none⟩=some (.int .i64 y.x.e.kind):=hcb 2 _ rfl;have b3:wr.cell? ⟨p1,q1+i*12+3,none⟩=some (.int .i64 y.x.e.job):=hcb 3 _ rfl;have b4:wr.cell? ⟨p1,q1+i*12+4,none⟩=some (.int .i64 y.x.e.every):=hcb 4 _ rfl;have b5:wr.cell? ⟨p1,q1+i*12+5,none⟩=some (.int .i64 y.x.e.time):=hcb 5 _ rfl;have b6:wr.cell? ⟨p1,q1+i*12+6,none⟩=some (.int .i64 y.x.e.client):=hcb 6 _ rfl;have b7:wr.cell? ⟨p1,q1+i*12+7,none⟩=some (.int .i64 y.x.at_):=hcb 7 _ rfl;have b8:wr.cell? ⟨p1,q1+i*12+8,none⟩=some (.int .i64 y.x.link):=hcb 8 _ rfl;have b9:wr.cell? ⟨p1,q1+i*12+9,none⟩=some (.int .i64 y.x.played):=hcb 9 _ rfl;have b10:wr.cell? ⟨p1,q1+i*12+10,none⟩=some (.slice y.A y.n y.c):=hcb 10 _ rfl;have b11:wr.cell? ⟨p1,q1+i*12+11,none⟩=some (.slice y.G y.m y.d):=hcb 11 _ rfl
      have hmx:=List.mem_of_getElem? hx;have hmy:=List.mem_of_getElem? hy;have HX:=aH hx;have HY:=aH hy;clear hca hcb hx hy;go_upto_region 6 with fail
      refine aW (v1:=[x.x.epoch,x.x.doing,x.x.e.kind,x.x.e.job,x.x.e.every,x.x.e.time,x.x.e.client,x.x.at_,x.x.link,x.x.played,.slice x.A x.n x.c,.slice x.G x.m x.d]) rfl fun w6 ox X=>?_
      have b0:=aB ox b0;have b1:=aB ox b1;have b2:=aB ox b2;have b3:=aB ox b3;have b4:=aB ox b4;have b5:=aB ox b5;have b6:=aB ox b6;have b7:=aB ox b7;have b8:=aB ox b8;have b9:=aB ox b9;have b10:=aB ox b10;have b11:=aB ox b11;clear a0 a1 a2 a3 a4 a5 a6 a7 a8 a9 a10 a11;generalize wr.heap.size=zx at *;go_upto_region 7 with fail
      refine aW (v1:=[y.x.epoch,y.x.doing,y.x.e.kind,y.x.e.job,y.x.e.every,y.x.e.time,y.x.e.client,y.x.at_,y.x.link,y.x.played,.slice y.A y.n y.c,.slice y.G y.m y.d]) rfl fun w7 oy Y=>?_
      have X:=X.oe oy;have on7:=(on.to ox).to oy;clear b0 b1 b2 b3 b4 b5 b6 b7 b8 b9 b10 b11 ox oy;generalize w6.heap.size=zy at *;obtain⟨a0,a1,a2,a3,a4,a5,a6,a7,a8,a9,a10,a11⟩:=X.p12;obtain⟨b0,b1,b2,b3,b4,b5,b6,b7,b8,b9,b10,b11⟩:=Y.p12;go_wp2_with fail;refine Calls.mono (hp'.out x hmx y hmy _ on7) ?_;rintro e w8⟨rfl,b⟩;have on8:=on7.to b;clear X Y a0 b0 a1 b1 a2 b2 a3 b3 a4 b4 a5 b5 a6 b6 a7 b7 a8 b8 a9 b9 a10 b10 a11 b11 on on7 b
      have hst:yV p (l.drop i) (l'.drop i)=(p x y&&yV p (l.drop (i+1)) (l'.drop (i+1))):=by
       rw[List.drop_eq_getElem_cons (by have:=HL.out;omega),List.drop_eq_getElem_cons (l:=l') (by have:=HL'.out;omega),(List.getElem?_eq_some_iff.1 HX.out).2,(List.getElem?_eq_some_iff.1 HY.out).2];rfl
      have HS:=aH hst;clear hst
      cases hpx:p x y with
      |true =>
        have hq2:q=yV p (l.drop (i+1)) (l'.drop (i+1)):=by rw[HQ.out,HS.out,hpx];rfl
        have HQ2:=aH hq2;clear hq2 hpx HQ;go_wp2_with fail;go_roundg (n-(i+1))
        case measure=>omega
        case rel=>exact⟨i+1,by omega,Nat.le_refl _,by go_num,on8,HQ2⟩
      |false =>
        have hq2:q=false:=by rw[HQ.out,HS.out,hpx];rfl
        subst hq2;clear hpx;go_wp2_with fail;go_ret;exact⟨rfl,on8⟩
    obtain rfl:i=n:=by omega
    have hq2:q=true:=by
     rw[HQ.out,List.drop_eq_nil_of_le (by have:=HL.out;omega),List.drop_eq_nil_of_le (by have:=HL'.out;omega)];rfl
    subst hq2;go_wp2_with fail;go_ret;exact⟨rfl,on⟩
 have hq2:q=false:=by rw[HQ.out];exact BF (by rw[HL.out,HL'.out];exact hnm)
 subst hq2;have hd:((n:Int) !=(m:Int))=true:=by simp;omega
 clear HQ;go_enter func34,ntmps34;go_wp2_with fail;go_ret;exact⟨rfl,aA.Zz _⟩
theorem DN (A A' : Option Addr)(n c n' c' : Nat)(tip tip' : Int)(C C' : Option Addr)(m d m' d' : Nat)(time time' : Int)(ns ns' : List NV)(cs cs' : List CV)(w : World)(R : WR w A n C m ns cs)(R' : WR w A' n' C' m' ns' cs')
    (hn:n≤9223372036854775807)(hm:m≤9223372036854775807)(hc:∀v∈cs,v.n≤9223372036854775807∧v.m≤9223372036854775807) :
    Calls prog 9 #[.agg #[.slice A n c,tip,.slice C m d,time],.agg #[.slice A' n' c',tip',.slice C' m' d',time']] w fun e w'=>e=.returned (.bool (decide (aY ns tip cs time=aY ns' tip' cs' time')))∧aA w w':=by
 obtain⟨r,hr⟩:∃r,r=decide (aY ns tip cs time=aY ns' tip' cs' time'):=⟨_,rfl⟩
 rw[←hr]
 have hr2:r=(decide (tip=tip')&&(decide (time=time')&&(decide (bL cs=bL cs')&&decide (bC ns=bC ns')))):=by
  rw[hr];unfold aY;simp only[iA.mk.injEq];by_cases h1:tip=tip'<;>by_cases h2:time=time'<;>by_cases h3:bL cs=bL cs'<;>by_cases h4:bC ns=bC ns'<;>simp[h1,h2,h3,h4]
 have HR:=aH hr2;have HC:=aH hc;clear hr hr2 hc;go_enter func9,ntmps9;go_upto_region 1 with fail
 have on:=((aA.Zz w).new (Obj.cells #[.slice A n c,tip,.slice C m d,time] 25)).new (Obj.cells #[.slice A' n' c',tip',.slice C' m' d',time'] 25);have U:Bx ((w.alloc (Obj.cells #[.slice A n c,tip,.slice C m d,time] 25)).alloc (Obj.cells #[.slice A' n' c',tip',.slice C' m' d',time'] 25)) w.heap.size [.slice A n c,tip,.slice C m d,time]:=(Bx.Zt _ _ _).new _;have V:Bx ((w.alloc (Obj.cells #[.slice A n c,tip,.slice C m d,time] 25)).alloc (Obj.cells #[.slice A' n' c',tip',.slice C' m' d',time'] 25)) (w.heap.size+1) [.slice A' n' c',tip',.slice C' m' d',time']:=iT w _ #[.slice A' n' c',tip',.slice C' m' d',time'] _;replace R:=R.oe on;replace R':=R'.oe on
 try change Code.wp _ _ _ _ ((w.alloc (Obj.cells #[.slice A n c,tip,.slice C m d,time] 25)).alloc (Obj.cells #[.slice A' n' c',tip',.slice C' m' d',time'] 25))
 generalize((w.alloc (Obj.cells #[.slice A n c,tip,.slice C m d,time] 25)).alloc (Obj.cells #[.slice A' n' c',tip',.slice C' m' d',time'] 25))=w1 at *;generalize w.heap.size=z at *;obtain⟨a0,a1,a2,a3⟩:=U.p4;obtain⟨b0,b1,b2,b3⟩:=V.p4
 cases h1:decide (tip=tip')with
 |false =>
   have hrr:r=false:=by rw[HR.out,h1];rfl
   subst hrr;have hd:(tip ==tip')=false:=by simpa using h1
   clear h1 HR;go_wp2_with fail;go_ret;exact⟨rfl,on⟩
 |true =>
   have hrr:r=(decide (time=time')&&(decide (bL cs=bL cs')&&decide (bC ns=bC ns'))):=by rw[HR.out,h1];rfl
   have HR2:=aH hrr;have hd:(tip ==tip')=true:=by simpa using h1
   clear h1 HR hrr
   cases h2:decide (time=time')with
   |false =>
     have hrr:r=false:=by rw[HR2.out,h2];rfl
     subst hrr;have hd2:(time ==time')=false:=by simpa using h2
     clear h2 HR2;go_wp2_with fail;go_ret;exact⟨rfl,on⟩
   |true =>
     have hrr:r=(decide (bL cs=bL cs')&&decide (bC ns=bC ns')):=by rw[HR2.out,h2];rfl
     have HR3:=aH hrr;have hd2:(time ==time')=true:=by simpa using h2
     clear h2 HR2 hrr;go_wp2_with fail;refine Calls.mono (mP C C' m d m' d' cs cs' 35 (fun x y=>decide (x.x=y.x)) _ R.cr R'.cr hm (fun _ _=>by kernel_rfl) (fun x hx y hy w' hw=>CC x.x.epoch x.x.doing x.x.at_ x.x.link x.x.played y.x.epoch y.x.doing y.x.at_ y.x.link y.x.played x.x.e y.x.e x.A x.G y.A y.G x.n x.c x.m x.d y.n y.c y.m y.d x.x.b y.x.b w' ((R.ci x hx).oe hw).jobs ((R.ci x hx).oe hw).rung ((R'.ci y hy).oe hw).jobs ((R'.ci y hy).oe hw).rung (HC.out x hx).1 (HC.out x hx).2)) ?_;rw[sS (fun v:CV=>v.x) cs cs'];rintro e w2⟨rfl,b⟩;replace U:=U.oe b;replace V:=V.oe b;replace R:=R.oe b;replace R':=R'.oe b;replace on:=on.to b;clear a0 a1 a2 a3 b0 b1 b2 b3 b;have a0:=U.at_ 0 rfl;have b0:=V.at_ 0 rfl
     cases h3:decide (bL cs=bL cs')with
     |false =>
       have hrr:r=false:=by rw[HR3.out,h3];rfl
       subst hrr;clear h3 HR3;go_wp2_with fail;go_ret;exact⟨rfl,on⟩
     |true =>
       have hrr:r=decide (bC ns=bC ns'):=by rw[HR3.out,h3];rfl
       have HR4:=aH hrr;clear h3 HR3 hrr;go_wp2_with fail;refine Calls.mono (mS A A' n c n' c' ns ns' 37 (fun x y=>decide (x.x=y.x)) _ R.nr R'.nr hn (fun _ _=>by kernel_rfl) (fun x hx y hy w' hw=>DO x y w' ((R.ni x hx).oe hw) ((R'.ni y hy).oe hw))) ?_;rw[sS (fun v:NV=>v.x) ns ns',show decide (List.map (fun v:NV=>v.x) ns=List.map (fun v:NV=>v.x) ns')=r from HR4.out.symm];rintro e w3⟨rfl,b⟩;replace on:=on.to b;go_wp2_with fail;go_ret;exact⟨by simp,on⟩
end
section
attribute [local go_sem ↓] Go.wp_at_zero Go.wp_at_succ
theorem AL (u v : NV)(w : World)(hu : u.In w)(hv : v.In w) :
    Calls prog 41 #[.agg #[u.x.u.ep,.slice u.A u.n u.c,.slice u.F u.k u.i,.slice u.G u.l u.j,.bool u.x.up],.agg #[v.x.u.ep,.slice v.A v.n v.c,.slice v.F v.k v.i,.slice v.G v.l v.j,.bool v.x.up]] w fun e w'=>e=.returned (.bool (decide (u.x=v.x)))∧aA w w':=by
 obtain⟨r,hr⟩:∃r,r=decide (u.x=v.x):=⟨_,rfl⟩
 rw[←hr]
 have hr2:r=(decide (u.x.up=v.x.up)&&(decide ((⟨u.x.u.ep,u.x.u.cells⟩:eM)=⟨v.x.u.ep,v.x.u.cells⟩)&&decide (u.x.d=v.x.d))):=by
  rw[hr];obtain⟨⟨a1,a2,a3⟩,_⟩:=u;obtain⟨⟨b1,b2,b3⟩,_⟩:=v;simp only[iC.mk.injEq];by_cases h1:a1=b1<;>by_cases h2:a2=b2<;>by_cases h3:a3=b3<;>simp[h1,h2,h3]
 have HR:=aH hr2;clear hr hr2;go_enter func41,ntmps41;go_upto_region 1 with fail
 have on:=((aA.Zz w).new (Obj.cells #[u.x.u.ep,.slice u.A u.n u.c,.slice u.F u.k u.i,.slice u.G u.l u.j,.bool u.x.up] 55)).new (Obj.cells #[v.x.u.ep,.slice v.A v.n v.c,.slice v.F v.k v.i,.slice v.G v.l v.j,.bool v.x.up] 55);have U:Bx ((w.alloc (Obj.cells #[u.x.u.ep,.slice u.A u.n u.c,.slice u.F u.k u.i,.slice u.G u.l u.j,.bool u.x.up] 55)).alloc (Obj.cells #[v.x.u.ep,.slice v.A v.n v.c,.slice v.F v.k v.i,.slice v.G v.l v.j,.bool v.x.up] 55)) w.heap.size [u.x.u.ep,.slice u.A u.n u.c,.slice u.F u.k u.i,.slice u.G u.l u.j,.bool u.x.up]:=(Bx.Zt _ _ _).new _;have V:Bx ((w.alloc (Obj.cells #[u.x.u.ep,.slice u.A u.n u.c,.slice u.F u.k u.i,.slice u.G u.l u.j,.bool u.x.up] 55)).alloc (Obj.cells #[v.x.u.ep,.slice v.A v.n v.c,.slice v.F v.k v.i,.slice v.G v.l v.j,.bool v.x.up] 55)) (w.heap.size+1) [v.x.u.ep,.slice v.A v.n v.c,.slice v.F v.k v.i,.slice v.G v.l v.j,.bool v.x.up]:=iT w _ #[v.x.u.ep,.slice v.A v.n v.c,.slice v.F v.k v.i,.slice v.G v.l v.j,.bool v.x.up] _;replace hu:=hu.oe on;replace hv:=hv.oe on
 try change Code.wp _ _ _ _ ((w.alloc (Obj.cells #[u.x.u.ep,.slice u.A u.n u.c,.slice u.F u.k u.i,.slice u.G u.l u.j,.bool u.x.up] 55)).alloc (Obj.cells #[v.x.u.ep,.slice v.A v.n v.c,.slice v.F v.k v.i,.slice v.G v.l v.j,.bool v.x.up] 55))
 generalize((w.alloc (Obj.cells #[u.x.u.ep,.slice u.A u.n u.c,.slice u.F u.k u.i,.slice u.G u.l u.j,.bool u.x.up] 55)).alloc (Obj.cells #[v.x.u.ep,.slice v.A v.n v.c,.slice v.F v.k v.i,.slice v.G v.l v.j,.bool v.x.up] 55))=w1 at *;generalize w.heap.size=z at *;obtain⟨a0,a1,a2,a3,a4⟩:=U.p5;obtain⟨b0,b1,b2,b3,b4⟩:=V.p5
 cases h1:decide (u.x.up=v.x.up)with
 |false =>
   have hrr:r=false:=by rw[HR.out,h1];rfl
   subst hrr;have hd:(u.x.up ==v.x.up)=false:=by simpa using h1
   clear h1 HR;go_wp2_with fail;go_ret;exact⟨rfl,on⟩
 |true =>
   have hrr:r=(decide ((⟨u.x.u.ep,u.x.u.cells⟩:eM)=⟨v.x.u.ep,v.x.u.cells⟩)&&decide (u.x.d=v.x.d)):=by rw[HR.out,h1];rfl
   have HR2:=aH hrr;have hd:(u.x.up ==v.x.up)=true:=by simpa using h1
   clear h1 HR hrr;go_wp2_with fail;refine Calls.mono (rS u.x.u.ep v.x.u.ep u.A v.A u.n u.c v.n v.c u.x.u.cells v.x.u.cells _ hu.cells hv.cells hu.small) ?_;rintro e w2⟨rfl,b⟩;replace U:=U.oe b;replace V:=V.oe b;replace hu:=hu.oe b;replace hv:=hv.oe b;replace on:=on.to b;clear a0 a1 a2 a3 a4 b0 b1 b2 b3 b4 b;have a2:=U.at_ 2 rfl;have a3:=U.at_ 3 rfl;have b2:=V.at_ 2 rfl;have b3:=V.at_ 3 rfl
   cases h2:decide ((⟨u.x.u.ep,u.x.u.cells⟩:eM)=⟨v.x.u.ep,v.x.u.cells⟩)with
   |false =>
     have hrr:r=false:=by rw[HR2.out,h2];rfl
     subst hrr;clear h2 HR2;go_wp2_with fail;go_ret;exact⟨rfl,on⟩
   |true =>
     have hrr:r=decide (u.x.d=v.x.d):=by rw[HR2.out,h2];rfl
     have HR3:=aH hrr;clear h2 HR2 hrr;go_wp2_with fail;refine Calls.mono (zR u.F u.G u.k u.i u.l u.j u.x.d v.F v.G v.k v.i v.l v.j v.x.d _ hu.disk hv.disk) ?_;rw[←HR3.out];rintro e w3⟨rfl,b⟩;replace on:=on.to b;go_wp2_with fail;go_ret;exact⟨by simp,on⟩
theorem kV (A A' : Option Addr)(n c n' c' : Nat)(tip tip' : Int)(C C' : Option Addr)(m d m' d' : Nat)(time time' : Int)(ns ns' : List NV)(cs cs' : List CV)(w : World)(R : WR w A n C m ns cs)(R' : WR w A' n' C' m' ns' cs')
    (hn:n≤9223372036854775807)(hm:m≤9223372036854775807)(hc:∀v∈cs,v.n≤9223372036854775807∧v.m≤9223372036854775807) :
    Calls prog 10 #[.agg #[.slice A n c,tip,.slice C m d,time],.agg #[.slice A' n' c',tip',.slice C' m' d',time']] w fun e w'=>e=.returned (.bool (decide (aY ns tip cs time=aY ns' tip' cs' time')))∧aA w w':=by
 obtain⟨r,hr⟩:∃r,r=decide (aY ns tip cs time=aY ns' tip' cs' time'):=⟨_,rfl⟩
 rw[←hr]
 have hr2:r=(decide (tip=tip')&&(decide (time=time')&&(decide (bL cs=bL cs')&&decide (bC ns=bC ns')))):=by
  rw[hr];unfold aY;simp only[iA.mk.injEq];by_cases h1:tip=tip'<;>by_cases h2:time=time'<;>by_cases h3:bL cs=bL cs'<;>by_cases h4:bC ns=bC ns'<;>simp[h1,h2,h3,h4]
 have HR:=aH hr2;have HC:=aH hc;clear hr hr2 hc;go_enter func10,ntmps10;go_upto_region 1 with fail
 have on:=((aA.Zz w).new (Obj.cells #[.slice A n c,tip,.slice C m d,time] 25)).new (Obj.cells #[.slice A' n' c',tip',.slice C' m' d',time'] 25);have U:Bx ((w.alloc (Obj.cells #[.slice A n c,tip,.slice C m d,time] 25)).alloc (Obj.cells #[.slice A' n' c',tip',.slice C' m' d',time'] 25)) w.heap.size [.slice A n c,tip,.slice C m d,time]:=(Bx.Zt _ _ _).new _;have V:Bx ((w.alloc (Obj.cells #[.slice A n c,tip,.slice C m d,time] 25)).alloc (Obj.cells #[.slice A' n' c',tip',.slice C' m' d',time'] 25)) (w.heap.size+1) [.slice A' n' c',tip',.slice C' m' d',time']:=iT w _ #[.slice A' n' c',tip',.slice C' m' d',time'] _;replace R:=R.oe on;replace R':=R'.oe on
 try change Code.wp _ _ _ _ ((w.alloc (Obj.cells #[.slice A n c,tip,.slice C m d,time] 25)).alloc (Obj.cells #[.slice A' n' c',tip',.slice C' m' d',time'] 25))
 generalize((w.alloc (Obj.cells #[.slice A n c,tip,.slice C m d,time] 25)).alloc (Obj.cells #[.slice A' n' c',tip',.slice C' m' d',time'] 25))=w1 at *;generalize w.heap.size=z at *;obtain⟨a0,a1,a2,a3⟩:=U.p4;obtain⟨b0,b1,b2,b3⟩:=V.p4
 cases h1:decide (tip=tip')with
 |false =>
   have hrr:r=false:=by rw[HR.out,h1];rfl
   subst hrr;have hd:(tip ==tip')=false:=by simpa using h1
   clear h1 HR;go_wp2_with fail;go_ret;exact⟨rfl,on⟩
 |true =>
   have hrr:r=(decide (time=time')&&(decide (bL cs=bL cs')&&decide (bC ns=bC ns'))):=by rw[HR.out,h1];rfl
   have HR2:=aH hrr;have hd:(tip ==tip')=true:=by simpa using h1
   clear h1 HR hrr
   cases h2:decide (time=time')with
   |false =>
     have hrr:r=false:=by rw[HR2.out,h2];rfl
     subst hrr;have hd2:(time ==time')=false:=by simpa using h2
     clear h2 HR2;go_wp2_with fail;go_ret;exact⟨rfl,on⟩
   |true =>
     have hrr:r=(decide (bL cs=bL cs')&&decide (bC ns=bC ns')):=by rw[HR2.out,h2];rfl
     have HR3:=aH hrr;have hd2:(time ==time')=true:=by simpa using h2
     clear h2 HR2 hrr;go_wp2_with fail;refine Calls.mono (mP C C' m d m' d' cs cs' 40 (fun x y=>decide (x.x=y.x)) _ R.cr R'.cr hm (fun _ _=>by kernel_rfl) (fun x hx y hy w' hw=>yA x.x.epoch x.x.doing x.x.at_ x.x.link x.x.played y.x.epoch y.x.doing y.x.at_ y.x.link y.x.played x.x.e y.x.e x.A x.G y.A y.G x.n x.c x.m x.d y.n y.c y.m y.d x.x.b y.x.b w' ((R.ci x hx).oe hw).jobs ((R.ci x hx).oe hw).rung ((R'.ci y hy).oe hw).jobs ((R'.ci y hy).oe hw).rung (HC.out x hx).1 (HC.out x hx).2)) ?_;rw[sS (fun v:CV=>v.x) cs cs'];rintro e w2⟨rfl,b⟩;replace U:=U.oe b;replace V:=V.oe b;replace R:=R.oe b;replace R':=R'.oe b;replace on:=on.to b;clear a0 a1 a2 a3 b0 b1 b2 b3 b;have a0:=U.at_ 0 rfl;have b0:=V.at_ 0 rfl
     cases h3:decide (bL cs=bL cs')with
     |false =>
       have hrr:r=false:=by rw[HR3.out,h3];rfl
       subst hrr;clear h3 HR3;go_wp2_with fail;go_ret;exact⟨rfl,on⟩
     |true =>
       have hrr:r=decide (bC ns=bC ns'):=by rw[HR3.out,h3];rfl
       have HR4:=aH hrr;clear h3 HR3 hrr;go_wp2_with fail;refine Calls.mono (mS A A' n c n' c' ns ns' 41 (fun x y=>decide (x.x=y.x)) _ R.nr R'.nr hn (fun _ _=>by kernel_rfl) (fun x hx y hy w' hw=>AL x y w' ((R.ni x hx).oe hw) ((R'.ni y hy).oe hw))) ?_;rw[sS (fun v:NV=>v.x) ns ns',show decide (List.map (fun v:NV=>v.x) ns=List.map (fun v:NV=>v.x) ns')=r from HR4.out.symm];rintro e w3⟨rfl,b⟩;replace on:=on.to b;go_wp2_with fail;go_ret;exact⟨by simp,on⟩
end
section
attribute [local go_sem ↓] Go.wp_at_zero Go.wp_at_succ
def FL:CV:=⟨iD,none,0,0,none,0,0⟩
theorem MX (w:World):FL.In w:=⟨Sl.nil,Sl.nil,Nat.le_refl _,Nat.le_refl _⟩
structure xC (lo:Nat)(w:World)(v:Value)(ns:List NV):Prop where
 x:∀v∈ns,v.x=lH
 i:∀v∈ns,v.In w
 f:∀v∈ns,v.fresh lo
 o:∀b,v.ownBlock=some b→∀u∈ns,u.off b
theorem xC.oe {lo:Nat}{w w':World}{v:Value}{ns:List NV}(h:xC lo w v ns)(b:aA w w'):xC lo w' v ns:=⟨h.x,fun v hv=>(h.i v hv).oe b,h.f,h.o⟩
theorem xC.put {lo:Nat}{w:World}{v:Value}{ns:List NV}(h:xC lo w v ns){p:Addr}(hp:p.block<lo)(u:Value):xC lo (w.setCell p u) v ns:=⟨h.x,fun v hv=>(h.i v hv).put ((h.f v hv).off hp) u,h.f,h.o⟩
theorem xC.app {lo : Nat}{w w' : World}{v v' : Value}{ns : List NV}{n : NV}(h : xC lo w v ns)(hx : n.x = lH)(hi : n.In w)(hf : n.fresh lo)(ho : ∀b, v.ownBlock = some b → n.off b)(g : w.grownBy w' v.ownBlock)
    (hv:v'.ownBlock=v.ownBlock∨v'.ownBlock=some w.heap.size):xC lo w' v' (ns ++[n]):=by
 have hall:∀u∈ns ++[n],u.In w∧u.x=lH∧u.fresh lo∧∀b,v.ownBlock=some b→u.off b:=fun u hu=>by
  rcases List.mem_append.1 hu with hu|hu
  · exact⟨h.i u hu,h.x u hu,h.f u hu,fun b hb=>h.o b hb u hu⟩
  obtain rfl:=List.mem_singleton.1 hu;exact⟨hi,hx,hf,ho⟩
 refine⟨fun u hu=>(hall u hu).2.1,fun u hu=>(hall u hu).1.gr g (hall u hu).2.2.2,fun u hu=>(hall u hu).2.2.1,fun b hb u hu=>?_⟩;rcases hv with hv|hv
 · exact(hall u hu).2.2.2 b (hv.symm.trans hb)
 rw[hv]at hb;injection hb with hb;subst hb;exact(hall u hu).1.Zn (Nat.le_refl _)
theorem vM (w:World):Calls prog 11 #[] w fun e w'=>∃A n C m ns cs,e=.returned (.agg #[.slice A 3 n,(),.slice C 3 m,()])∧WR w' A 3 C 3 ns cs∧aY ns 0 cs 0=qV∧aA w w':=by
 go_enter func11,ntmps11;go_upto_region 2 with fail
 have on:=((aA.Zz w).new (Obj.cells #[Nat,(),Nat,()] 25)).new (Obj.cells #[Nat,(),Nat,()] 25);have Q:Bx ((w.alloc (Obj.cells #[Nat,(),Nat,()] 25)).alloc (Obj.cells #[Nat,(),Nat,()] 25)) w.heap.size [Nat,(),Nat,()]:=(Bx.Zt _ _ _).new _;have Z:Bx ((w.alloc (Obj.cells #[Nat,(),Nat,()] 25)).alloc (Obj.cells #[Nat,(),Nat,()] 25)) (w.heap.size+1) [Nat,(),Nat,()]:=iT w _ #[Nat,(),Nat,()] _
 try change Code.wp _ _ _ _ ((w.alloc (Obj.cells #[Nat,(),Nat,()] 25)).alloc (Obj.cells #[Nat,(),Nat,()] 25))
 have hs1:w.heap.size+2≤((w.alloc (Obj.cells #[Nat,(),Nat,()] 25)).alloc (Obj.cells #[Nat,(),Nat,()] 25)).heap.size:=by simp
 generalize((w.alloc (Obj.cells #[Nat,(),Nat,()] 25)).alloc (Obj.cells #[Nat,(),Nat,()] 25))=w1 at *;obtain⟨z,hz⟩:∃z,z=w.heap.size:=⟨_,rfl⟩
 obtain⟨zw,hzw⟩:∃z,z=w.heap.size+1:=⟨_,rfl⟩
 obtain⟨lo,hlo⟩:∃z,z=w.heap.size+2:=⟨_,rfl⟩
 rw[←hz]at Q;rw[←hzw]at Z;rw[←hlo]at hs1;have h1:w.heap.size≤z:=by omega
 have h2:w.heap.size≤zw:=by omega
 have h3:z<lo:=by omega
 have h4:zw<lo:=by omega
 have h5:z≠zw:=by omega
 rw[←hzw,←hz];clear hz hzw hlo;go_wp2_with fail
 go_loopg [2] 3 (fun g s2 wr=>∃ (k y:Nat) (A:Option Addr) (ns:List NV),k≤3∧3-k≤g∧s2=.int .i64 k∧Hid (cH wr lo 55 5 (.slice A k y) k (ns.map bW))∧Hid (xC lo wr (.slice A k y) ns)∧Bx wr zw [.slice A k y,(),Nat,()]∧Bx wr z [Nat,(),Nat,()]∧lo≤wr.heap.size∧aA w wr)
 case atStart=>exact⟨0,0,none,[],by omega,by omega,rfl,cH.nil _ _ _ _,aH ⟨fun _ h=>absurd h (by simp),fun _ h=>absurd h (by simp),fun _ h=>absurd h (by simp),fun b hb=>by cases hb⟩,Z,Q,hs1,on⟩
 case round =>
  clear Z Q on hs1;obtain⟨k,y,A,ns,hk,hg,rfl,HO,HNN,Z,Q,hsl,on⟩:=hrel;by_cases hlt:k<3
  · obtain⟨i0,hi0,hzz0,hzz1,hzz2⟩:=info_parts BM;have HI:=aH hi0;have HZ0:=aH hzz0;have HZ1:=aH hzz1;have HZ2:=aH hzz2;clear hi0 hzz0 hzz1 hzz2;have hb5:∀b,(Value.slice A k y).ownBlock=some b→b<wr.heap.size:=fun b hb=>(HO.out.lt b hb).2
    have HB5:=aH hb5;clear hb5;have z0:=Z.at_ 0 rfl;have g0:=Z.Zy 0;have hzl:=Z.lt;go_upto_region 4 with fail
    go_region_law (first
     | (go_simp;go_at_call 43;refine Calls.mono (uD _) ?_;rintro e w5⟨A5, c5, rfl, hs5, ob, hc5, hm5, f5⟩;have b5 : aA wr w5 := aA.to (by with_reducible(first|exact aA.Zz _|exact(aA.Zz _).draw|exact(aA.Zz _).Zv _|exact((aA.Zz _).new _).draw|exact((aA.Zz _).draw).new _)) ob;have y0 := aB b5 z0;have y0' := aB (b5.new (Obj.cells #[(1:Int), .slice A5 60 c5, .slice none 0 0, .slice none 0 0, .bool true] 55)) z0
        have HNEW:Hid (Sl (w5.alloc (Obj.cells #[(1:Int),.slice A5 60 c5,Nat,Nat,.bool true] 55)) (w5.heap.size+1) 5 (some ⟨w5.heap.size,0,none⟩) 1 [bW (⟨lH,A5,60,c5,none,0,0,none,0,0⟩:NV)]):=by
         have:=Sl.block (w:=w5.alloc (Obj.cells #[(1:Int),.slice A5 60 c5,Nat,Nat,.bool true] 55)) (k:=5) [bW (⟨lH,A5,60,c5,none,0,0,none,0,0⟩:NV)] (heap_alloc_new w5 _) (by simp[bW]) rfl;exact aH (by simpa using this)
        have HO5:=aH ((HO.out.below b5).alloc (Obj.cells #[(1:Int),.slice A5 60 c5,Nat,Nat,.bool true] 55));have hs5l:wr.heap.size≤w5.heap.size:=b5.size
        have hlo5:lo≤(w5.alloc (Obj.cells #[(1:Int),.slice A5 60 c5,Nat,Nat,.bool true] 55)).heap.size:=by simp;omega)
     | (rw[if_pos (by simp[Region.wanted])];refine jA _ (.tmp 5) (.tmp 8) 22 rfl lo 55 i0 _ 5 88 underlying22 HI.out HZ0.out HZ1.out HZ2.out rfl (by decide) (.slice A k y) k (ns.map bW) (by simp[Act.eval, Act.put]) HO5.out (w5.heap.size + 1) (some ⟨w5.heap.size, 0, none⟩) 1 1 [bW (⟨lH, A5, 60, c5, none, 0, 0, none, 0, 0⟩ : NV)] (by simp[Act.eval, Act.put]) HNEW.out (by simp[bW, Value.oneCell']) (by unfold maxLen;omega) (by omega) hlo5 ?_;intro v8 w8 own8 grow0 hv8;obtain⟨A8, c8, rfl, _, _⟩ := own8.slice
        have grow8:(w5.alloc (Obj.cells #[(1:Int),.slice A5 60 c5,Nat,Nat,.bool true] 55)).grownBy w8 (Value.ownBlock (.slice A k y)):=grow0;have hne:some zw≠Value.ownBlock (.slice A k y):=HO.out.Zo h4;have Z8:=(Z.oe (b5.new (Obj.cells #[(1:Int),.slice A5 60 c5,Nat,Nat,.bool true] 55))).grown grow8 hne;have u0:=Z8.at_ 0 rfl;have t0:=Z8.Zy 0
        clear grow0 hne))
    all_goals
     have hE8:aA wr (w5.alloc (Obj.cells #[(1:Int),.slice A5 60 c5,Nat,Nat,.bool true] 55)):=b5.new _;have hN8:xC lo w8 (.slice A8 (k+1) c8) (ns ++[(⟨lH,A5,60,c5,none,0,0,none,0,0⟩:NV)]):=(HNN.out.oe hE8).app (n:=(⟨lH,A5,60,c5,none,0,0,none,0,0⟩:NV)) rfl ⟨hs5.new _,DK.Zp _,hc5,hm5⟩ ⟨fun a e=>Nat.le_trans hsl (f5 a e),aR.Zp _,aR.Zp _⟩ (fun b hb=>⟨f5.Zx (HB5.out b hb),fun h=>absurd h (Nat.lt_irrefl _),fun h=>absurd h (Nat.lt_irrefl _)⟩) grow8 hv8;have Q8:=(Q.oe hE8).grown grow8 (HO.out.Zo h3);have on8:aA w w8:=aT (on.to hE8) (on.to hE8).size grow8 (fun g hg=>by have:=(HO.out.lt g hg).1;omega);have hO8:cH w8 lo 55 5 (.slice A8 (k+1) c8) (k+1) ((ns ++[(⟨lH,A5,60,c5,none,0,0,none,0,0⟩:NV)]).map bW):=by rw[List.map_append];exact own8
     have HN9:=aH (hN8.put (p:=⟨zw,0,none⟩) h4 (.slice A8 (k+1) c8));have HO9:=aH (hO8.setCell (p:=⟨zw,0,none⟩) h4 (.slice A8 (k+1) c8));have Z9:=Z8.Zq (j:=0) (by simp) (.slice A8 (k+1) c8);have Q9:=Q8.grown ((aK.Zz w8 zw).put (p:=⟨zw,0,none⟩) rfl (.slice A8 (k+1) c8)) (by intro e;injection e with e;exact h5 e);have on9:=on8.put (p:=⟨zw,0,none⟩) h2 (.slice A8 (k+1) c8);have hl9:lo≤(w8.setCell ⟨zw,0,none⟩ (.slice A8 (k+1) c8)).heap.size:=by have:=grow8.size;simp at this⊢;omega
     clear own8 grow8 hv8 Z8 u0 t0 hE8 hN8 Q8 on8 hO8 HO HNN Z Q on z0 g0 y0 y0' HNEW HO5 HI HZ0 HZ1 HZ2 HB5 hs5 ob f5 b5;generalize w8.setCell ⟨zw,0,none⟩ (.slice A8 (k+1) c8)=w9 at *;go_wp2_with fail;go_roundg (3-(k+1))
     case measure=>omega
     case rel=>exact⟨k+1,c8,A8,_,by omega,Nat.le_refl _,by go_num,HO9,HN9,Z9,Q9,hl9,on9⟩
  obtain rfl:k=3:=by omega
  have hl3:ns.length=3:=by have:=HO.out.sl.len;simpa using this
  have hS:=HO.out.sl;have HS:Hid (S wr 5 A 3 (ns.map bW)):=aH hS;have HX:=aH HNN.out.x;have HI:=aH HNN.out.i;have HF:=aH HNN.out.f;have HL3:=aH hl3;have hA:aR lo A:=HO.out.fresh (Nat.le_refl _);have HA:=aH hA;clear HO HNN hg hS hl3 hA;go_wp2_with fail
  go_loopg [12] 3 (fun g s12 wr=>∃ (k c:Nat) (C:Option Addr),k≤3∧3-k≤g∧s12=.int .i64 k∧Hid (cH wr lo 68 12 (.slice C k c) k ((List.replicate k FL).map aE))∧Hid (S wr 5 A 3 (ns.map bW))∧Hid (∀v∈ns,v.In wr)∧Hid (∀b,(Value.slice C k c).ownBlock=some b→bQ 3 b A∧∀v∈ns,v.off b)∧Bx wr zw [.slice A 3 y,(),.slice C k c,()]∧Bx wr z [Nat,(),Nat,()]∧lo≤wr.heap.size∧aA w wr)
  case atStart=>exact⟨0,0,none,by omega,by omega,rfl,cH.nil _ _ _ _,HS,HI,aH (fun b hb=>by cases hb),Z,Q,hsl,on⟩
  case round =>
   clear Z Q on hsl HS HI;obtain⟨k,c,C,hk,hg,rfl,HO,HS,HI,HB,Z,Q,hsl,on⟩:=hrel;by_cases hlt:k<3
   · obtain⟨i0,hi0,hzz0,hzz1,hzz2⟩:=info_parts AS;have HII:=aH hi0;have HZ0:=aH hzz0;have HZ1:=aH hzz1;have HZ2:=aH hzz2;clear hi0 hzz0 hzz1 hzz2;have z0:=Z.at_ 2 rfl;have g0:=Z.Zy 2;have hzl:=Z.lt;go_upto_region 8 with fail
     go_region_law (first
      | (go_simp;go_at_call 44;refine Calls.mono (uK _) ?_;rintro e w5⟨rfl, ob⟩;have b5 : aA wr w5 := aA.to (by with_reducible(first|exact aA.Zz _|exact(aA.Zz _).draw|exact(aA.Zz _).Zv _|exact((aA.Zz _).new _).draw|exact((aA.Zz _).draw).new _)) ob;have y0 := aB b5 z0;have y0' := aB (b5.new (Obj.cells #[(1:Int), .int .i64 0, .int .i64 0, .int .i64 0, .int .i64 0, .int .i64 0, .int .i64 0, .int .i64 0, .int .i64 0, .int .i64 0, .slice none 0 0, .slice none 0 0] 68)) z0
         have HNEW:Hid (Sl (w5.alloc (Obj.cells #[(1:Int),(),(),(),(),(),(),(),(),(),Nat,Nat] 68)) (w5.heap.size+1) 12 (some ⟨w5.heap.size,0,none⟩) 1 [aE FL]):=by
          have:=Sl.block (w:=w5.alloc (Obj.cells #[(1:Int),(),(),(),(),(),(),(),(),(),Nat,Nat] 68)) (k:=12) [aE FL] (heap_alloc_new w5 _) (by simp[aE]) rfl;exact aH (by simpa using this)
         have HO5:=aH ((HO.out.below b5).alloc (Obj.cells #[(1:Int),(),(),(),(),(),(),(),(),(),Nat,Nat] 68));have hs5l:wr.heap.size≤w5.heap.size:=b5.size
         have hlo5:lo≤(w5.alloc (Obj.cells #[(1:Int),(),(),(),(),(),(),(),(),(),Nat,Nat] 68)).heap.size:=by simp;omega)
      | (rw[if_pos (by simp[Region.wanted])];refine jA _ (.tmp 15) (.tmp 17) 23 rfl lo 68 i0 _ 12 128 underlying23 HII.out HZ0.out HZ1.out HZ2.out rfl (by decide) (.slice C k c) k ((List.replicate k FL).map aE) (by simp[Act.eval, Act.put]) HO5.out (w5.heap.size + 1) (some ⟨w5.heap.size, 0, none⟩) 1 1 [aE FL] (by simp[Act.eval, Act.put]) HNEW.out (by simp[aE, Value.oneCell']) (by unfold maxLen;omega) (by omega) hlo5 ?_;intro v8 w8 own8 grow0 hv8;obtain⟨A8, c8, rfl, _, _⟩ := own8.slice
         have grow8:(w5.alloc (Obj.cells #[(1:Int),(),(),(),(),(),(),(),(),(),Nat,Nat] 68)).grownBy w8 (Value.ownBlock (.slice C k c)):=grow0;have hne:some zw≠Value.ownBlock (.slice C k c):=HO.out.Zo h4;have Z8:=(Z.oe (b5.new (Obj.cells #[(1:Int),(),(),(),(),(),(),(),(),(),Nat,Nat] 68))).grown grow8 hne;have u0:=Z8.at_ 2 rfl;have t0:=Z8.Zy 2
         clear grow0 hne))
     all_goals
      have hE8:aA wr (w5.alloc (Obj.cells #[(1:Int),(),(),(),(),(),(),(),(),(),Nat,Nat] 68)):=b5.new _;have hS5:=HS.out.oe hE8;have hI5:∀v∈ns,v.In (w5.alloc (Obj.cells #[(1:Int),(),(),(),(),(),(),(),(),(),Nat,Nat] 68)):=fun v hv=>(HI.out v hv).oe hE8
      have hB8:∀b,(Value.slice A8 (k+1) c8).ownBlock=some b→bQ 3 b A∧∀v∈ns,v.off b:=fun b hb=>by
       rcases hv8 with h|h
       · exact HB.out b (h.symm.trans hb)
       rw[h]at hb;injection hb with hb;subst hb;exact⟨hS5.Zx (Nat.le_refl _),fun v hv=>(hI5 v hv).Zn (Nat.le_refl _)⟩
      have hS8:=hS5.grown grow8 (fun b hb=>(HB.out b hb).1);have hI8:∀v∈ns,v.In w8:=fun v hv=>(hI5 v hv).gr grow8 (fun b hb=>(HB.out b hb).2 v hv)
      have Q8:=(Q.oe hE8).grown grow8 (HO.out.Zo h3);have on8:aA w w8:=aT (on.to hE8) (on.to hE8).size grow8 (fun g hg=>by have:=(HO.out.lt g hg).1;omega)
      have hO8:cH w8 lo 68 12 (.slice A8 (k+1) c8) (k+1) ((List.replicate (k+1) FL).map aE):=by
       rw[List.replicate_succ',List.map_append];exact own8
      have HB9:=aH hB8;have HS9:=aH (S.off hS8 (p:=⟨zw,2,none⟩) (HA.out.Zx h4) (.slice A8 (k+1) c8));have HI9:Hid (∀v∈ns,v.In (w8.setCell ⟨zw,2,none⟩ (.slice A8 (k+1) c8))):=aH fun v hv=>(hI8 v hv).put (p:=⟨zw,2,none⟩) ((HF.out v hv).off h4) _
      have HO9:=aH (hO8.setCell (p:=⟨zw,2,none⟩) h4 (.slice A8 (k+1) c8));have Z9:=Z8.Zq (j:=2) (by simp) (.slice A8 (k+1) c8);have Q9:=Q8.grown ((aK.Zz w8 zw).put (p:=⟨zw,2,none⟩) rfl (.slice A8 (k+1) c8)) (by intro e;injection e with e;exact h5 e);have on9:=on8.put (p:=⟨zw,2,none⟩) h2 (.slice A8 (k+1) c8);have hl9:lo≤(w8.setCell ⟨zw,2,none⟩ (.slice A8 (k+1) c8)).heap.size:=by have:=grow8.size;simp at this⊢;omega
      clear own8 grow8 hv8 Z8 u0 t0 hE8 hS5 hI5 hB8 hS8 hI8 Q8 on8 hO8 HO HS HI HB Z Q on z0 g0 y0 y0' HNEW HO5 HII HZ0 HZ1 HZ2 ob b5;generalize w8.setCell ⟨zw,2,none⟩ (.slice A8 (k+1) c8)=w9 at *;go_wp2_with fail;go_roundg (3-(k+1))
      case measure=>omega
      case rel=>exact⟨k+1,c8,A8,by omega,Nat.le_refl _,by go_num,HO9,HS9,HI9,HB9,Z9,Q9,hl9,on9⟩
   obtain rfl:k=3:=by omega
   obtain⟨z0,z1,z2,z3⟩:=Z.p4;obtain⟨q0,q1,q2,q3⟩:=Q.p4;have f0:=Q.Zy 0;have f1:=Q.Zy 1;have f2:=Q.Zy 2;have f3:=Q.Zy 3;go_wp2_with fail;refine bodyPost_ret (v:=.agg #[.slice A 3 y,(),.slice C 3 c,()]) (by simp[results,results11,go_sem,q0,q1,q2,q3,f0,f1,f2,f3]) rfl ?_;have hs:=HO.out.sl;have c9:bQ 3 z C:=(HO.out.fresh (Nat.le_refl _)).Zx h3;have a9:bQ 3 z A:=HA.out.Zx h3;refine⟨A,y,C,c,ns,List.replicate 3 FL,rfl,⟨?_,?_,fun v hv=>?_,fun v hv=>?_⟩,?_,(((on.put h1 _).put h1 _).put h1 _).put h1 _⟩
   · exact S.off (S.off (S.off (S.off HS.out a9 _) a9 _) a9 _) a9 _
   · exact S.off (S.off (S.off (S.off hs c9 _) c9 _) c9 _) c9 _
   · exact((((HI.out v hv).put ((HF.out v hv).off h3) _).put ((HF.out v hv).off h3) _).put ((HF.out v hv).off h3) _).put ((HF.out v hv).off h3) _
   · obtain rfl:=List.eq_of_mem_replicate hv;exact MX _
   have e:bC ns=[lH,lH,lH]:=by
    obtain⟨a,b,d,rfl⟩:=LC HL3.out;simp[bC,HX.out a (by simp),HX.out b (by simp),HX.out d (by simp)]
   unfold aY;rw[e];rfl
end
end Go.Proofs.YtpfkagghooihfaaGreatDoor
