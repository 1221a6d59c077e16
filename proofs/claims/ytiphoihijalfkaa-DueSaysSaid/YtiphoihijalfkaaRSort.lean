/- slices.SortFunc at jobs, of few. -/
import Derived.Test.YtiphoihijalfkaaBits
import Derived.Test.YtiphoihijalfkaaSort
namespace Go.Proofs.Ytiphoihijalfkaa
set_option linter.unusedSimpArgs false
set_option linter.unusedVariables false
open Go.RowKit

set_option maxHeartbeats 1000000 in
set_option maxRecDepth 100000 in
theorem SortF_calls (A : Option Addr) (n c base : Nat) (l : List Job) (g : FuncId) (lb : Array Value) (cf : Job → Job → Int) (w : World) (h : M w base 3 A n (l.map encJ)) (hn : n ≤ 12)
    (eg : ∀ args w, (callFunc g args).run Try.prog w = .ok (.enter g args) w)
    (hp : ∀ (x y : Job) (w' : World), x ∈ l → y ∈ l → Calls Try.prog g (#[.agg #[.int .i64 x.id, .int .i64 x.every, .int .i64 x.next], .agg #[.int .i64 y.id, .int .i64 y.every, .int .i64 y.next]] ++ lb) w' fun e w'' => e = .returned (.int .i64 (cf x y)) ∧ Onto w' w'') :
    Calls Try.prog 58 #[.slice A n c, .func (.func g) #[] lb] w fun e w' => e = .returned (.tuple #[]) ∧
      M w' base 3 A n ((isort (fun x y => decide (cf x y < 0)) l).map encJ) ∧ w.grownBy w' (A.map (·.block)) := by
  have hst : ∀ lim : Int, Calls Try.prog 66 #[.slice A n c, .int .i64 0, .int .i64 n, .int .i64 lim, .func (.func g) #[] lb] w fun e w' => e = .returned (.tuple #[]) ∧
      M w' base 3 A n ((isort (fun x y => decide (cf x y < 0)) l).map encJ) ∧ w.grownBy w' (A.map (·.block)) := by
    intro lim
    have hp' := Lib.hid hp
    clear hp
    have hn' : (n : Int) ≤ 12 := by omega
    go_enter Try.func66, Try.ntmps66
    go_wp2_with fail
    refine wp_loop_rounds 1 ?_
    rw [rounds_succ]
    go_wp2_with fail
    refine Calls.mono (isort_calls A n c base l g lb cf _ h hn eg hp'.out) ?_
    rintro e w1 ⟨rfl, h1, h2⟩
    go_wp2_with fail
    refine bodyPost_ret (v := .tuple #[]) (by simp [results, Try.results66, go_sem]) rfl ⟨rfl, h1, h2⟩
  have HS := Lib.hid hst
  clear hst hp
  go_enter Try.func58, Try.ntmps58
  go_wp2_with (go_at_call 67; refine Calls.mono (bitsLen_calls _ _ (by omega) (by omega)) ?_; rintro e w' ⟨rfl, rfl⟩)
  refine Calls.mono (HS.out _) ?_
  rintro e w' ⟨rfl, h1, h2⟩
  go_wp2
  go_end0
  exact ⟨rfl, h1, h2⟩
end Go.Proofs.Ytiphoihijalfkaa
