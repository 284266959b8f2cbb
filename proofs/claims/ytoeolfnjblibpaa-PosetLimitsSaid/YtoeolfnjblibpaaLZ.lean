/- Chapter 03: PosetLimits at the walk's fuel. -/
import Derived.Test.YtoeolfnjblibpaaLW
import Derived.Test.YtoeolfnjblibpaaB0
namespace Go.Proofs.Ytoeolfnjblibpaa
open Go.Gl Go.RowKit Try
set_option linter.unusedVariables false
set_option maxRecDepth 4000
theorem dls_head : dls 1 255 = dlI 1 :: dls 2 254 := rfl
theorem limits_all (M : Bs) (w0 : World) (hM : ∀ b, M b → b < w0.heap.size) (x_ : UInt8) : Calls Try.prog 10 [.int .u8 ((x_.toNat : Nat) : Int)].toArray w0 (Ret noB w0 fun v w => v = .bool true) := by
  have hf : ∀ k, (fds k).length = k := fun k => List.length_replicate
  have hr : ∀ k, (reps k).length = k := fun k => List.length_replicate
  have hd : ∀ a k, (dls a k).length = k := fun a k => by unfold dls; rw [List.length_map, List.length_range']
  refine c_law03_PosetLimits 100000 M w0 hM x_ (dls 1 255) (tI :: dls 1 256) (dls 2 254) (dlI 1) dls_head (by decide) rfl rfl (many_eq 100000 256 (by omega) (by omega) (by omega)) (by rw [List.length_cons, hd]) (many_eq 100000 257 (by omega) (by omega) (by omega))
    (flat_many.check 100000 (by omega)) (long_check _ _ (long_many _ _ (by rw [List.length_cons, hd]; omega)))
    (long_check _ _ (long_first _ (by omega) _ _ (.inl (by show 256 < (fds 257).length; rw [hf]; omega)))) (flat_feats.check 100000 (by omega))
    (long_check _ _ (long_second _ (by omega) _ _ _ ⟨Nat.zero_le _, Nat.zero_le _⟩ (.inr (by show 256 < (reps 257).length; rw [hr]; omega)))) (dup_check 100000 (by omega)) ex03
end Go.Proofs.Ytoeolfnjblibpaa
