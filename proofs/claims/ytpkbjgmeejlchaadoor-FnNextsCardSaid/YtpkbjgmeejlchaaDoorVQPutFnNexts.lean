-- Made by the kit's print and pruned by a program of this session (wip/tools): checked by Lean alone.
import Derived.Test.YtpkbjgmeejlchaaDoorVWordsFnNexts
import Derived.Test.YtpkbjgmeejlchaaDoorVLastFnNexts
namespace Go.Proofs.YtpkbjgmeejlchaaDoorW.PrintWords
open Go.RowKit
namespace Kd
section
variable {α : Type} {d : Kd α} {e base g o n cap : Nat} {ok okp : Nat → Prop} {w W : World} {v : Value} {xs : List α}
end
section
variable {α : Type} {enc : α → Value} {h1 : ∀ x, (enc x).oneCell' = true} {e base g o n cap : Nat} {ok : Nat → Prop} {W : World} {xs : List α}
end
end Kd
end Go.Proofs.YtpkbjgmeejlchaaDoorW.PrintWords

