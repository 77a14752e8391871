import Derived.Test.YtogckmommodmhaaGreatDoorZt16
import Derived.Test.YtogckmommodmhaaGreatDoorZt5
import Derived.Test.YtogckmommodmhaaGreatDoorZt14
import Derived.Test.YtogckmommodmhaaGreatDoorRows
import Derived.KernelRfl
set_option maxHeartbeats 16000000
namespace Go.Proofs.YtogckmommodmhaaGreatDoor
open Go.RowKit
set_option linter.all false
set_option linter.unusedSimpArgs false
set_option maxRecDepth 100000
theorem By:FT Tryz.prog 30 Tryz.f30 (aO Tryz.prog Tryz.f30) [.t 6,.t 7]:=.of Tryz.func30
structure lX (S:NS) (f:List UInt8) (m:Mp):Prop where
 mem:m ∈ S.tb.maps
 e:bP f=0
 back:S.tb.maps.find? (Je (az f).ae ((az f).dst - 3405803777) (az f).aj)=some m
 dst:0≤(az f).dst - 3405803777∧(az f).dst - 3405803777 < 3
 y9:¬ ((az f).ae=1∧(az f).flags≠0)
 av:(az f).av≠1
 is:(S.aN f).1=⟨0,Yq f 1 (167772161 + m.s) m.aN,true,[]⟩
 tb:(S.aN f).2.tb=S.tb
theorem Bz (S:NS) (f:List UInt8):(∃ e,(S.aN f).1=bR e∧e≠0∧(S.aN f).2=S)∨∃ m,lX S f m:=by
 have hS:∀ e:Int,e≠0→((bR e,S):Rp × NS)=S.aN f→(∃ e,(S.aN f).1=bR e∧e≠0∧(S.aN f).2=S)∨∃ m,lX S f m:=fun e he h=>.inl ⟨e,by rw[← h],he,by rw[← h]⟩
 obtain ⟨x,hx⟩:∃ x,x=S.aN f:=⟨_,rfl⟩
 have kp:=hx
 rw[Ew]at hx
 split at hx
 ·rename_i h;exact hS _ h (hx ▸ kp)
 rename_i h1
 split at hx
 ·exact hS 7 aR (hx ▸ kp)
 rename_i h2
 split at hx
 ·exact hS 4 aR (hx ▸ kp)
 rename_i h3
 split at hx
 ·exact hS 12 aR (hx ▸ kp)
 rename_i h4
 split at hx
 ·exact hS 7 aR (hx ▸ kp)
 rename_i m hm
 have fin:∀ S':NS,S'.tb=S.tb→x=(⟨0,Yq f 1 (167772161 + m.s) m.aN,true,[]⟩,S')→(∃ e,(S.aN f).1=bR e∧e≠0∧(S.aN f).2=S)∨∃ m,lX S f m:=fun S' ht e =>
  .inr ⟨m,List.mem_of_find?_eq_some hm,Decidable.not_not.1 h1,hm,by omega,h3,h4,by rw[← kp,e],by rw[← kp,e];exact ht⟩
 split at hx
 ·exact fin (S.goes _ _ _) rfl hx
 split at hx
 ·exact hS 11 aR (hx ▸ kp)
 split at hx
 ·exact hS 11 aR (hx ▸ kp)
 ·exact fin (S.begin _) rfl hx
end Go.Proofs.YtogckmommodmhaaGreatDoor
