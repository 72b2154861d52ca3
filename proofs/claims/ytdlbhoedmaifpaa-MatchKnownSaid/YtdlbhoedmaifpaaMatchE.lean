/- MatchE: whether steps may be; their size. -/
import Derived.Test.YtdlbhoedmaifpaaMatchD
namespace Go.Proofs.Ytdlbhoedmaifpaa
open Go.RowKit Go.MapKept
/-- A step of any numbers. -/
abbrev StI := Int × Int × UInt8
def toI (s : PM.St) : StI := ((s.1 : Int), (s.2.1 : Int), s.2.2)
def fitsI (s : StI) (n : Int) : Bool := if s.1 = 0 then decide (s.2.1 = 0) else decide (3 ≤ s.1 ∧ s.1 ≤ 258 ∧ 1 ≤ s.2.1 ∧ s.2.1 ≤ 32768 ∧ s.2.1 ≤ n ∧ s.2.2.toNat = 0)
def madeI (s : StI) : Int := max s.1 1
def mayI : List StI → Int → Bool
  | [], _ => true
  | s :: l, n => fitsI s n && mayI l (n + madeI s)
def sizeI : List StI → Int
  | [] => 0
  | s :: l => madeI s + sizeI l
theorem fitsI_made {s : StI} {n : Int} (h : fitsI s n = true) : 1 ≤ madeI s ∧ madeI s ≤ 258 := by
  unfold fitsI at h
  unfold madeI
  split at h
  · omega
  · have := of_decide_eq_true h; omega
theorem mayI_map (X : List PM.St) (n : Nat) (h : PM.mays X n) : mayI (X.map toI) (n : Int) = true := by
  induction X generalizing n with
  | nil => rfl
  | cons s X ih =>
    obtain ⟨h1, h2⟩ := h
    obtain ⟨a, b, c⟩ := s
    show (fitsI (toI (a, b, c)) (n : Int) && mayI (X.map toI) ((n : Int) + madeI (toI (a, b, c)))) = true
    have e : (n : Int) + madeI (toI (a, b, c)) = ((n + PM.made (a, b, c) : Nat) : Int) := by
      show (n : Int) + max (a : Int) 1 = ((n + max a 1 : Nat) : Int)
      omega
    rw [e, ih _ h2, Bool.and_true]
    unfold fitsI
    show (if (a : Int) = 0 then decide ((b : Int) = 0) else _) = true
    rcases h1 with ⟨h3, h4⟩ | ⟨h3, h4, h5, h6, h7, h8⟩
    · replace h3 : a = 0 := h3
      replace h4 : b = 0 := h4
      subst h3 h4
      rfl
    · replace h3 : 3 ≤ a := h3
      replace h4 : a ≤ 258 := h4
      replace h5 : 1 ≤ b := h5
      replace h6 : b ≤ 32768 := h6
      replace h7 : b ≤ n := h7
      replace h8 : c = 0 := h8
      subst h8
      rw [if_neg (by omega)]
      exact decide_eq_true ⟨by show (3 : Int) ≤ (a : Int); omega, by show (a : Int) ≤ 258; omega, by show (1 : Int) ≤ (b : Int); omega, by show (b : Int) ≤ 32768; omega, by show (b : Int) ≤ (n : Int); omega, rfl⟩
theorem sizeI_map (X : List PM.St) : sizeI (X.map toI) = (PM.size X : Int) := by
  induction X with
  | nil => rfl
  | cons s X ih =>
    show madeI (toI s) + sizeI (X.map toI) = ((PM.made s + PM.size X : Nat) : Int)
    rw [ih]
    show max (s.1 : Int) 1 + (PM.size X : Int) = ((max s.1 1 + PM.size X : Nat) : Int)
    omega
/-- Steps of any numbers that lie side by side. -/
def StI_ (w : World) (V : Option Addr) (X : List StI) : Prop := ∀ (i : Nat) (h : i < X.length), ∃ ad, V = some ad ∧ w.cell? (ad.add (i * 3)) = some (.int .i64 X[i].1) ∧
  w.cell? ⟨(ad.add (i * 3)).block, (ad.add (i * 3)).off + 1, none⟩ = some (.int .i64 X[i].2.1) ∧ w.cell? ⟨(ad.add (i * 3)).block, (ad.add (i * 3)).off + 2, none⟩ = some (.int .u8 (X[i].2.2.toNat : Int))
theorem StAt.toI {w : World} {V : Option Addr} {X : List PM.St} (h : StAt w V X) : StI_ w V (X.map toI) := fun i hi => by
  rw [List.length_map] at hi
  obtain ⟨ad, e, h1, h2, h3⟩ := h i hi
  refine ⟨ad, e, ?_, ?_, ?_⟩
  · rw [h1, List.getElem_map]; rfl
  · rw [h2, List.getElem_map]; rfl
  · rw [h3, List.getElem_map]; rfl
set_option maxRecDepth 100000 in
theorem fits_ok (x y n : Int) (z : UInt8) (w : World) :
    Calls Try.prog 48 #[.agg #[.int .i64 x, .int .i64 y, .int .u8 (z.toNat : Int)], .int .i64 n] w fun e w' => e = .returned (.bool (fitsI (x, y, z) n)) ∧ Keep w w' := by
  obtain ⟨r, hr⟩ : ∃ r, fitsI (x, y, z) n = r := ⟨_, rfl⟩
  have hr2 : fitsI (x, y, z) n = if x = 0 then decide (y = 0) else decide (3 ≤ x ∧ x ≤ 258 ∧ 1 ≤ y ∧ y ≤ 32768 ∧ y ≤ n ∧ z.toNat = 0) := rfl
  rw [hr2] at hr
  rw [hr2, hr]
  have HR := Lib.hid hr
  clear hr hr2
  obtain ⟨zn, hzn⟩ : ∃ zn, z.toNat = zn := ⟨_, rfl⟩
  rw [hzn] at HR ⊢
  clear hzn
  by_cases hx : x = 0
  · have e := HR.out
    rw [if_pos hx] at e
    have HE := Lib.hid e
    clear e HR
    go_enter Try.func48, Try.ntmps48
    go_wp2
    all_goals (
      go_ret
      refine ⟨ret_bool ?_, Keep.alloc _ _⟩
      rw [← HE.out, Bool.eq_iff_iff]
      simp only [beq_iff_eq, decide_eq_true_eq] <;> first | omega | (constructor <;> intro h <;> first | exact h.elim | omega))
  · have e := HR.out
    rw [if_neg hx] at e
    have HE := Lib.hid e
    clear e HR
    go_enter Try.func48, Try.ntmps48
    go_wp2
    all_goals (
      go_ret
      refine ⟨ret_bool ?_, Keep.alloc _ _⟩
      rw [← HE.out, Bool.eq_iff_iff]
      simp only [beq_iff_eq, decide_eq_true_eq, Bool.false_eq_true] <;> first | omega | (constructor <;> intro h <;> first | exact h.elim | omega))
theorem made_okI (x y : Int) (z : Int) (w : World) :
    Calls Try.prog 49 #[.agg #[.int .i64 x, .int .i64 y, .int .u8 z]] w fun e w' => e = .returned (.int .i64 (max x 1)) ∧ Keep w w' := by
  obtain ⟨m, hm⟩ : ∃ m : Int, max x 1 = m := ⟨_, rfl⟩
  rw [hm]
  go_enter Try.func49, Try.ntmps49
  go_wp2
  · go_ret
    exact ⟨ret_i64 (by omega), Keep.alloc _ _⟩
  · go_ret
    exact ⟨ret_i64 (by omega), Keep.alloc _ _⟩
end Go.Proofs.Ytdlbhoedmaifpaa
