/- What the document's client functions leave (for the texts of ClientSays; in XRHeard it stands too). -/
import Derived.Test.YtbipmoehcmighaaClient4
namespace Go.Proofs.Ytbipmoehcmighaa
set_option linter.unusedSimpArgs false
set_option linter.unusedVariables false
open Go.RowKit

/-- What a call of the document's leaves that answers (Client, Errno). -/
def RClPost (w : World) (c : Cli) (err : Int) (e : Ending) (w' : World) : Prop :=
  ∃ A n k A' m d, e = .returned (.tuple #[.agg #[.int .i64 c.epoch, .int .i64 c.doing, .int .i64 c.e.kind, .int .i64 c.e.job, .int .i64 c.e.every, .int .i64 c.e.time, .int .i64 c.e.client, .int .i64 c.at_, .int .i64 c.link, .int .i64 c.played, .slice A n k, .slice A' m d], .int .i64 err]) ∧
    S w' 3 A n (c.b.jobs.map encJ) ∧ S w' 3 A' m (c.b.rung.map encR) ∧ Onto w w'
end Go.Proofs.Ytbipmoehcmighaa
