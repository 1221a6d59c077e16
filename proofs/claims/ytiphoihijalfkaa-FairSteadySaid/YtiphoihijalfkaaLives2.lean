/- fair.Lives, of however many entries. -/
import Derived.Test.YtiphoihijalfkaaLives
namespace Go.Proofs.Ytiphoihijalfkaa
set_option linter.unusedSimpArgs false
set_option linter.unusedVariables false
open Go.RowKit

theorem Lives_calls (A : Option Addr) (n c : Nat) (l : List Entry) (w : World) (h : S w 5 A n (l.map encE)) :
    Calls Try.prog 15 #[.slice A n c] w (RowsPost 5 encL w (livesL l).1 (livesL l).2) := by
  by_cases hbig : 60 < n
  · have hl : l.length = n := by have := h.len; simpa using this
    have hs : livesL l = ([], 2) := by unfold livesL; rw [if_pos (by omega)]
    have HS := Lib.hid hs
    have hd : decide ((60 : Int) < (n : Int)) = true := by simp; omega
    have hd' : (60 : Int) < (n : Int) := by omega
    clear hs h hl hbig
    go_enter Try.func15, Try.ntmps15
    go_wp2_with fail
    refine bodyPost_ret (v := .tuple #[.slice none 0 0, .int .i64 2]) (by simp [results, Try.results15, go_sem]) rfl ?_
    rw [HS.out]
    exact ⟨none, 0, 0, rfl, Sl.nil, Onto.rfl' _, Fresh.none_ _, Nat.le_refl _, by unfold maxLen; omega⟩
  · exact Lives_good A n c l w h (by omega)
end Go.Proofs.Ytiphoihijalfkaa
