import Derived.Test.YtjgojlnnphkefaaSDegreeStays14
import Derived.Test.YtjgojlnnphkefaaProg
import Derived.KernelRfl
namespace Go.Proofs.Ytjgojlnnphkefaa.P
theorem arrz86 : (Try.prog.info? 86).map (fun i => (i.zero, i.size)) = some (some (.agg (Array.replicate 320 (Value.bool false))), 320) := by kernel_rfl
theorem arrz90 : (Try.prog.info? 90).map (fun i => (i.zero, i.size)) = some (some (.agg (Array.replicate 320 ((Value.int .i64) 0))), 320) := by kernel_rfl
end Go.Proofs.Ytjgojlnnphkefaa.P
