/- A part of a proof: an abstract machine for the given program, and what it says of it. No condition. -/
import Derived.Test.YtccahnafehfjlaaGreatPartC
open Go Go.E
namespace Go.Proofs.YtccahnafehfjlaaGreat
def towns : AV := (.agg [(.agg [(.sl 3 [(.agg [(.int .i64 (1)), (.agg [(.int .i64 (0)), (.int .i64 (0))])]), (.agg [(.int .i64 (2)), (.agg [(.int .i64 (1)), (.int .i64 (1))])])]), (.sl 6 []), (.sl 1 [])]), (.sl 5 [(.agg [(.int .i64 (7)), (.int .i64 (1)), (.int .i64 (1)), (.str ⟨#[]⟩), (.sl 1 [(.int .i64 (1))])]), (.agg [(.int .i64 (8)), (.int .i64 (1)), (.int .i64 (1)), (.str ⟨#[]⟩), (.sl 1 [(.int .i64 (2))])])])])
set_option maxRecDepth 1000000 in
theorem check_towns : evalF Cf 60 17 [.v towns] = some (.int .i64 0, [.v towns]) := by kernel_rfl
end Go.Proofs.YtccahnafehfjlaaGreat
