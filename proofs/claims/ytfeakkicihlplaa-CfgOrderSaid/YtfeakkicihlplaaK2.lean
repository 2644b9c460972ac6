/- Rules for a scope with a label (no goto taken). -/
import Derived.Test.YtfeakkicihlplaaK
import Derived.Scope
namespace Go.Proofs.Ytfeakkicihlplaa
open Go.RowKit
variable {G : Prg} {Q : Exit → Act → World → Prop} {n : Nat} {E : Env} {w : World}
theorem Cd.scope {c : Code} (h : Cd G (Exit.noGoto Q) n c E w) : Cd G Q n (.scope c) E w := ⟨fun a ha => wp_scope_straight (h.h a ha)⟩
theorem Fin.ngN (h : Fin Q n .normal E w) : Fin (Exit.noGoto Q) n .normal E w := ⟨fun a ha => h.h a ha⟩
theorem Fin.ngR (h : Fin Q n .ret E w) : Fin (Exit.noGoto Q) n .ret E w := ⟨fun a ha => h.h a ha⟩
theorem Fin.ngX {id : Nat} (h : Fin Q n (.exit id) E w) : Fin (Exit.noGoto Q) n (.exit id) E w := ⟨fun a ha => h.h a ha⟩
end Go.Proofs.Ytfeakkicihlplaa
