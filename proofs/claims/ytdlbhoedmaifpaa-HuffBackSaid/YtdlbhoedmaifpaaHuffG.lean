/- HuffG: Codes and New of what may not be; too many; one bit fed. -/
import Derived.Test.YtdlbhoedmaifpaaHuffF
namespace Go.Proofs.Ytdlbhoedmaifpaa
open Go.RowKit
set_option maxRecDepth 100000 in
theorem codes_bad (A : Option Addr) (n c : Nat) (l : List Int) {w0 w : World} {L : List Pr} (H : Sp w0 L w) (hn : n = l.length) (hb : Ent L fun w => Rd w A (cells64 l)) (hl : n ≤ 1000000000) (hm : PH.may l = false) :
    Calls Try.prog 35 #[.slice A n c] w fun e w' => e = .returned (.tuple #[.slice none 0 0, .int .i64 1]) ∧ Sp w0 L w' := by
  have hst := state_bad A n c l H hn hb hl hm
  clear hn hb hm
  go_enter Try.func35, Try.ntmps35
  go_wp2_with fail
  refine hst.mono ?_
  rintro _ w1 ⟨rfl, H1⟩
  clear hst
  go_wp2_with fail
  go_ret2
  exact ⟨rfl, H1⟩
set_option maxRecDepth 100000 in
theorem codes_many (A : Option Addr) (n c : Nat) (m : List Nat) {w0 w : World} {L : List Pr} (H : Sp w0 L w) (hn : n = m.length) (hb : Ent L fun w => Rd w A (cells64 (castI m))) (hl : n ≤ 1024) (h15 : ∀ x ∈ m, x ≤ 15) (hs : PH.state m = 1) :
    Calls Try.prog 35 #[.slice A n c] w fun e w' => e = .returned (.tuple #[.slice none 0 0, .int .i64 20]) ∧ Sp w0 L w' := by
  have hst := state_ok A n c m H hn hb hl h15
  rw [hs] at hst
  clear hn hb h15 hs
  go_enter Try.func35, Try.ntmps35
  go_wp2_with fail
  refine hst.mono ?_
  rintro _ w1 ⟨rfl, H1⟩
  clear hst
  go_wp2_with fail
  go_ret2
  exact ⟨rfl, H1⟩
set_option maxRecDepth 100000 in
theorem new_bad (A : Option Addr) (n c : Nat) (l : List Int) {w0 w : World} {L : List Pr} (H : Sp w0 L w) (hn : n = l.length) (hb : Ent L fun w => Rd w A (cells64 l)) (hl : n ≤ 1000000000) (hm : PH.may l = false) :
    Calls Try.prog 34 #[.slice A n c] w fun e w' => e = .returned (.tuple #[.pointer none, .int .i64 1]) ∧ Sp w0 L w' := by
  have hst := state_bad A n c l H hn hb hl hm
  clear hn hb hm
  go_enter Try.func34, Try.ntmps34
  go_wp2_with fail
  refine hst.mono ?_
  rintro _ w1 ⟨rfl, H1⟩
  clear hst
  go_wp2_with fail
  go_ret2
  exact ⟨rfl, H1⟩
end Go.Proofs.Ytdlbhoedmaifpaa
