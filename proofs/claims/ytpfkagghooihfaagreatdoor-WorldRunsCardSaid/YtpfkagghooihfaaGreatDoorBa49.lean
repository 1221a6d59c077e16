/- Part 49. -/
import Derived.Test.YtpfkagghooihfaaGreatDoorBa46
import Derived.Test.YtpfkagghooihfaaGreatDoorBa47
import Derived.Test.YtpfkagghooihfaaGreatDoorBa45
import Derived.Test.YtpfkagghooihfaaGreatDoorBa43
import Derived.Test.YtpfkagghooihfaaGreatDoorBa48
import Derived.Test.YtpfkagghooihfaaGreatDoorBa44
namespace Go.Proofs.YtpfkagghooihfaaGreatDoor
set_option linter.unusedSimpArgs false
set_option linter.unusedVariables false
open Go.Proofs.Tryz
section
theorem GJ (A : Option Addr)(n c : Nat)(tip : Int)(C : Option Addr)(m d : Nat)(time : Int)(ns : List NV)(cs : List CV)(kd cl nn jb ep : Int)(y : aL)(w : World)(Y : Nat → Prop)(HY : YH Y w ns cs)(E : fR w)(R : WR w A n C m ns cs)(hok : dL (aY ns tip cs time) = 0) :
    Calls prog 13 #[.agg #[.slice A n c,tip,.slice C m d,time],.agg (dY ⟨kd,cl,nn,jb,ep,y⟩).toArray] w (QT Y w (mN (aY ns tip cs time) ⟨kd,cl,nn,jb,ep,y⟩)):=by
 have h:((kd<1∨15<kd)∨kd=8∨kd=10∨kd=11∨kd=12∨kd=13)∨(kd=1∨kd=2∨kd=3∨kd=6)∨(kd=4∨kd=5)∨kd=9∨(kd=7∨kd=14)∨kd=15:=by omega
 rcases h with h|h|h|h|h|h
 · exact CR A n c tip C m d time ns cs kd cl nn jb ep y w Y HY E R hok h
 · exact CW A n c tip C m d time ns cs kd cl nn jb ep y w Y HY E R hok h
 · exact CM A n c tip C m d time ns cs kd cl nn jb ep y w Y HY E R hok h
 · exact DD A n c tip C m d time ns cs kd cl nn jb ep y w Y HY E R hok h
 · exact EO A n c tip C m d time ns cs kd cl nn jb ep y w Y HY E R hok h
 exact ET A n c tip C m d time ns cs kd cl nn jb ep y w Y HY E R hok h
end
end Go.Proofs.YtpfkagghooihfaaGreatDoor
