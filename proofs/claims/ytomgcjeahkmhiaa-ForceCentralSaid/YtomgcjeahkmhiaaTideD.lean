/- The tide: plain functions. -/
import Derived.Test.YtomgcjeahkmhiaaFor3
import Derived.Test.YtomgcjeahkmhiaaSSc
import Derived.Test.YtomgcjeahkmhiaaRow
import Derived.Deep.CutBlock
import Derived.Deep.DeepCutAuto
set_option linter.unusedSimpArgs false
set_option linter.unusedVariables false
namespace Go.Proofs.Ytomgcjeahkmhiaa
open Go.RowKit

/-- A tide's parts. -/
def tnI (c : R3) (x y : Int) : R3 := doI c.e (divI x y c.lo c.hi)
def ttI (n : R3) : R3 := doI n.e (scI n.lo n.hi 3 1)
def tmI (q n : R3) : R3 := doI (ttI n).e (divI (ttI n).lo (ttI n).hi q.lo q.hi)
def dsI (E a b : Int) : R3 := doI E (sqI a b)
def dxI (m : R3) (E a b : Int) : R3 := doI (dsI E a b).e (mulI m.lo m.hi (dsI E a b).lo (dsI E a b).hi)
def dgI (n m : R3) (E a b : Int) : R3 := doI (dxI m E a b).e (subI (dxI m E a b).lo (dxI m E a b).hi n.lo n.hi)
def oyI (E a b c d : Int) : R3 := doI E (mulI a b c d)
def ozI (m : R3) (E a b c d : Int) : R3 := doI (oyI E a b c d).e (mulI m.lo m.hi (oyI E a b c d).lo (oyI E a b c d).hi)
theorem tmI_W (q n : R3) : (tmI q n).W := doI_W (divI_W _ _ _ _)
theorem ttI_W (n : R3) : (ttI n).W := doI_W (scI_W _ _ _ _)
theorem tnI_W (c : R3) (x y : Int) : (tnI c x y).W := doI_W (divI_W _ _ _ _)
theorem dsI_W (E a b : Int) : (dsI E a b).W := doI_W (sqI_W _ _)
theorem oyI_W (E a b c d : Int) : (oyI E a b c d).W := doI_W (mulI_W _ _ _ _)
def pg0 (n m : R3) (d : V3) : R3 := dgI n m m.e d.a d.b
def pg1 (n m : R3) (d : V3) : R3 := dgI n m (pg0 n m d).e d.c d.d
def pz1 (n m : R3) (d : V3) : R3 := ozI m (pg1 n m d).e d.c d.d d.a d.b
def pg2 (n m : R3) (d : V3) : R3 := dgI n m (pz1 n m d).e d.e d.f
def pz2 (n m : R3) (d : V3) : R3 := ozI m (pg2 n m d).e d.e d.f d.a d.b
def pz3 (n m : R3) (d : V3) : R3 := ozI m (pz2 n m d).e d.e d.f d.c d.d
def ro0 (n m : R3) (d : V3) : R3 := dgI n m m.e d.a d.b
def ro1 (n m : R3) (d : V3) : R3 := ozI m (ro0 n m d).e d.a d.b d.c d.d
def ro2 (n m : R3) (d : V3) : R3 := ozI m (ro1 n m d).e d.a d.b d.e d.f
def ro3 (n m : R3) (d : V3) : R3 := ozI m (ro2 n m d).e d.c d.d d.a d.b
def ro4 (n m : R3) (d : V3) : R3 := dgI n m (ro3 n m d).e d.c d.d
def ro5 (n m : R3) (d : V3) : R3 := ozI m (ro4 n m d).e d.c d.d d.e d.f
def ro6 (n m : R3) (d : V3) : R3 := ozI m (ro5 n m d).e d.e d.f d.a d.b
def ro7 (n m : R3) (d : V3) : R3 := ozI m (ro6 n m d).e d.e d.f d.c d.d
def ro8 (n m : R3) (d : V3) : R3 := dgI n m (ro7 n m d).e d.e d.f
theorem rounds_step {P : Program} {c : Code} {Q : Exit → Act → World → Prop} {n : Nat} {a : Act} {w : World}
    (h : ∀ K' : Act → World → Prop, (∀ a w, Code.rounds P c Q n a w → K' a w) → c.wp P (Exit.then K' Q) a w) : Code.rounds P c Q (n + 1) a w := h _ (fun _ _ h => h)

end Go.Proofs.Ytomgcjeahkmhiaa
