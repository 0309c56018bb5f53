/- trystlaw04.PolyExact returns true. -/
import Derived.Test.YtlphiohgehkjlaaPLawExact
import Derived.Test.YtlphiohgehkjlaaPSame
import Derived.Test.YtlphiohgehkjlaaAvOpen
namespace Go.Proofs.Ytlphiohgehkjlaa
open Go.RowKit
theorem polyExact_walk (key : List (BitVec 8)) (v : Value) (l : List (BitVec 8)) (w : World) (hk : key.length = 32) (hv : SlR w v l) :
    Calls Try.prog 3 #[.agg (cells U8 key), v] w fun e w' => e = .returned (.bool true) ∧ Below w.heap.size w w' :=
  law_calls (polyExact_ev key l l.length l.length hk rfl (tags_same key l hk)) (open_R (us := [(v, l)]) (w := w) (by simpa using hv)) ⟨rel_bytes _ _, open_rel rfl hv, trivial⟩ (fun _ => open_none)
end Go.Proofs.Ytlphiohgehkjlaa
