/- What all layers share. No condition beyond those that each theorem says. -/
import Derived.Test.YtcfgcpcakdknkaaGreatLibW
namespace Go.Proofs.YtcfgcpcakdknkaaGreat
open Go Go.Gm
set_option linter.unusedVariables false
set_option linter.unusedSimpArgs false
set_option maxHeartbeats 4000000
set_option maxRecDepth 8000
theorem wrap_i64 {x:Int} (h : -9223372036854775808≤x∧x≤9223372036854775807):IntKind.wrap .i64 x=x:=wrap_id ⟨by simp [IntKind.min,IntKind.signed,IntKind.bits];omega,by simp [IntKind.max,IntKind.signed,IntKind.bits];omega⟩
theorem wrap_succ {i:Nat} (h:i<9223372036854775807):IntKind.wrap .i64 ((i:Int)+1)=((i+1:Nat):Int):=by rw [wrap_i64 (by omega)];omega
theorem wrap_u64 {x:Int} (h:0≤x∧x≤18446744073709551615):IntKind.wrap .u64 x=x:=wrap_id ⟨by simp [IntKind.min,IntKind.signed,IntKind.bits];omega,by simp [IntKind.max,IntKind.signed,IntKind.bits];omega⟩
theorem Sat.lenSl {α:Type} {R:α→List PV} {B:Base} {E:En} {a:Act} {w:World} {F:Fp} (h:Sat B E a w F) {i:Nat} {l:List α} (hl:Go.Gm.look E.s i=some (SF.pv (PV.sl R l))):l.length≤9223372036854775807:=by
 obtain ⟨_,cap,_,h1,h2,_⟩:=h.s i _ hl
 unfold maxLen at h2
 omega
def rInt (n:Int):List PV:=[.int .i64 n]
theorem Tells.any {ss:List SF} : Tells ss .any:=fun _ _ _ _ _=>trivial
theorem list_same {α:Type} [Inhabited α] {x y:List α} (hl:x.length=y.length) (h:∀ j,j<x.length→Go.Gm.nth x j=Go.Gm.nth y j):x=y:=by
 apply List.ext_getElem hl
 intro j h1 h2
 have:=h j h1
 rwa [nth_eq h1,nth_eq h2] at this
theorem take_next {α:Type} [Inhabited α] {q:List α} {k:Nat} (h:k<q.length):q.take k ++ [Go.Gm.nth q k] = q.take (k+1):=by
 rw [nth_eq h,List.take_succ_eq_append_getElem h]
theorem nth_mem {α:Type} [Inhabited α] {q:List α} {k:Nat} (h:k<q.length):Go.Gm.nth q k ∈ q:=by rw [nth_eq h];exact List.getElem_mem h
theorem drop_nth {α:Type} [Inhabited α] {l:List α} {i:Nat} (h:i<l.length):l.drop i=Go.Gm.nth l i :: l.drop (i+1):=by rw [nth_eq h];exact List.drop_eq_getElem_cons h
theorem take_nth {α:Type} [Inhabited α] {l:List α} {i:Nat} (h:i<l.length):l.take (i+1)=l.take i ++ [Go.Gm.nth l i]:=(take_next h).symm
end Go.Proofs.YtcfgcpcakdknkaaGreat
