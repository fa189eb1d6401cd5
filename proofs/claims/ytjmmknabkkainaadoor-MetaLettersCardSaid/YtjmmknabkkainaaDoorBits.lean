/- Small laws on the bits of numbers of 32 bits. -/
import Derived.Laws.BitsLemmas
namespace Go.Proofs.YtjmmknabkkainaaDoor
theorem wraps_u32 (n : Int) (h₀ : 0 ≤ n) (h₁ : n < 2 ^ 32) : IntKind.u32.wrap n = n := by rw [IntKind.wrap_u32]; omega
theorem u32_or8 (x y : Int) (hx₀ : 0 ≤ x) (hx : x % 256 = 0) (hx₁ : x < 4294967296) (h₀ : 0 ≤ y) (h₁ : y < 256) : bits .or .u32 x y = x + y :=
  bits_join .u32 32 (by decide) wraps_u32 8 x y hx₀ hx hx₁ h₀ h₁ (by omega)
theorem u32_or6 (x y : Int) (hx₀ : 0 ≤ x) (hx : x % 64 = 0) (hx₁ : x < 4294967296) (h₀ : 0 ≤ y) (h₁ : y < 64) : bits .or .u32 x y = x + y :=
  bits_join .u32 32 (by decide) wraps_u32 6 x y hx₀ hx hx₁ h₀ h₁ (by omega)
theorem u32_and63 (x : Int) (h₀ : 0 ≤ x) (h₁ : x < 4294967296) : bits .and .u32 x 63 = x % 64 := bits_mask .u32 32 (by decide) wraps_u32 6 (by decide) x h₀ h₁
end Go.Proofs.YtjmmknabkkainaaDoor
