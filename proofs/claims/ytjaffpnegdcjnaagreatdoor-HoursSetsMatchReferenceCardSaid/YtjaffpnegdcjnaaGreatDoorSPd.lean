/- Reading hours: offsets make no difference; what comes behind a part makes none. -/
import Derived.Test.YtjaffpnegdcjnaaGreatDoorSPc
set_option linter.unusedVariables false
set_option linter.unusedSimpArgs false
namespace Go.Proofs.YtjaffpnegdcjnaaGreatDoor
section
variable {α β : Type} (φ : α → β)
end
section
variable {α : Type} {en : α}
end
example : parseP [109, 111, 45, 116, 117, 32, 57, 58, 48, 48, 45, 49, 55, 58, 51, 48] = .ok [(540, 1050), (1980, 2490)] := by kernel_rfl
end Go.Proofs.YtjaffpnegdcjnaaGreatDoor
