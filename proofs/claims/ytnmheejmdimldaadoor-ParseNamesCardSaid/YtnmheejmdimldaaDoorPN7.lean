/- The told hooks are right. -/
import Derived.Test.YtnmheejmdimldaaDoorPN6
set_option linter.unusedVariables false
set_option linter.unusedSimpArgs false
set_option linter.unusedSectionVars false
/- The told hooks are right. -/
namespace Go.V
open Go
set_option linter.unusedSimpArgs false
set_option linter.unusedVariables false
theorem fine_itoa {P : Prog} (all : AllOk P itoaCode) : TabFine P (tabL itoaCode) := by
  have := AllOk2.fine (AllOk2.app all .nil)
  rwa [List.append_nil] at this
theorem itoa_lit {P : Prog} (hm : P.follows .mixedOrders = true) (hG : P.G = []) (all : AllOk P itoaCode) : EntryOk2 P 18 (.hook (litH itoaL)) :=
  EntryOk2.lit hm hG (fine_itoa all) 1000 _ itoaL fun args v l h => by
    unfold itoaL itoaG at h
    split at h
    · rename_i w hw
      split at hw
      · rename_i n
        split at hw
        · rename_i hb
          cases h
          cases hw
          exact ⟨rfl, _, below_get itoa_ev n (by simpa using hb)⟩
        · cases hw
      · cases hw
    · cases h
theorem map_lit {P : Prog} (hm : P.follows .mixedOrders = true) (hG : P.G = []) (all : AllOk P itoaCode) {f : Nat} {m : List (List UInt8 × List AV)}
    (hev : compAuto (callF (tabL itoaCode) (evalF (tabL itoaCode) 1000) f [] s0) (.map 0) [.map (entsW m 0) m.length] = true) : EntryOk2 P f (.hook (litH (mapG m))) :=
  EntryOk2.lit hm hG (fine_itoa all) 1000 f (mapG m) fun args v l h => by
    unfold mapG at h
    split at h
    · cases h
      exact ⟨rfl, _, hev⟩
    · cases h
end Go.V
