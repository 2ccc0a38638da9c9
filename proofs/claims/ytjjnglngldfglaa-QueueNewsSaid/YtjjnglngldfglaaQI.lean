/- The contract of Step, joined. -/
import Derived.Test.YtjjnglngldfglaaQR
namespace Go.Proofs.Ytjjnglngldfglaa.P
set_option linter.unusedVariables false
open Go Go.RowKit Go.Proofs.YtjjnglngldfglaaW.PrintWords Go.Proofs.YtjjnglngldfglaaW.PrintLast Go.Proofs.YtjjnglngldfglaaW.PrintMore

/-- A scout's place in a shop of n. -/
def okSt (n : Nat) : St → Prop
  | .read j _ => 0 ≤ j ∧ j < n
  | .choice j => 0 ≤ j ∧ j ≤ n
  | .turn j => 0 ≤ j ∧ j < n
  | _ => True
/-- One step of scout k. -/
def stepS (sh : Sh) (k : Nat) : Sh :=
  match (scAt sh k).st with
  | .idle => sh
  | .announce => upd sh k true (scAt sh k).no (.read 0 0)
  | .read j seen => upd sh k (scAt sh k).ch (scAt sh k).no (if j + 1 = sh.sc.length then .take (if seen < (scAt sh j).no then (scAt sh j).no else seen) else .read (j + 1) (if seen < (scAt sh j).no then (scAt sh j).no else seen))
  | .take seen => upd sh k (scAt sh k).ch (wrap64 (seen + 1)) .announced
  | .announced => upd sh k false (scAt sh k).no (.choice 0)
  | .choice j => if j = sh.sc.length then { upd sh k (scAt sh k).ch (scAt sh k).no .inside with tk := wrap64 (sh.tk + 1) } else if j = k then upd sh k (scAt sh k).ch (scAt sh k).no (.choice (wrap64 (j + 1))) else if (scAt sh j).ch = true ∧ sh.cl = false then sh else upd sh k (scAt sh k).ch (scAt sh k).no (.turn j)
  | .turn j => if firstOf sh j k = true then sh else upd sh k (scAt sh k).ch (scAt sh k).no (.choice (wrap64 (j + 1)))
  | .inside => upd sh k (scAt sh k).ch 0 .idle
/-- Whether it moves. -/
def stepC (sh : Sh) (k : Nat) : Bool :=
  match (scAt sh k).st with
  | .idle => false
  | .choice j => if j = sh.sc.length then true else if j = k then true else if (scAt sh j).ch = true ∧ sh.cl = false then false else true
  | .turn j => if firstOf sh j k = true then false else true
  | _ => true
def stepR (sh : Sh) (k : Nat) : Int := match (scAt sh k).st with | .idle => 5 | _ => 0

theorem Step_calls (W : World) (b g gs : Nat) (sh : Sh) (h : Shp W b g gs sh) (k : Nat) (hk : k < sh.sc.length) (hok : okSt sh.sc.length (scAt sh k).st) (hb : b ≤ W.heap.size) : Calls Try.prog 19 #[.pointer (some ⟨g, 0, none⟩), .int .i64 k] W fun e w' => e = .returned (.tuple #[.bool (stepC sh k), .int .i64 (stepR sh k)]) ∧ Shp w' b g gs (stepS sh k) ∧ Moved W w' b g gs := by
  unfold stepS stepC stepR
  cases hs : (scAt sh k).st with
  | idle => exact step_idle W b g gs sh h k hk hs hb
  | announce => exact step_announce W b g gs sh h k hk hs hb
  | read j seen =>
    rw [hs] at hok
    obtain ⟨h0, h1⟩ := hok
    obtain ⟨m, rfl⟩ := Int.eq_ofNat_of_zero_le h0
    by_cases c : (m : Int) + 1 = sh.sc.length
    · simp only [if_pos c]
      exact step_read_last W b g gs sh h k hk m seen (by omega) hs hb
    · simp only [if_neg c]
      exact step_read_more W b g gs sh h k hk m seen (by omega) hs hb
  | take seen => exact step_take W b g gs sh h k hk seen hs hb
  | announced => exact step_announced W b g gs sh h k hk hs hb
  | choice j =>
    rw [hs] at hok
    obtain ⟨h0, h1⟩ := hok
    obtain ⟨m, rfl⟩ := Int.eq_ofNat_of_zero_le h0
    by_cases c : (m : Int) = sh.sc.length
    · simp only [if_pos c]
      exact step_choice_in W b g gs sh h k hk m (by omega) hs hb
    · simp only [if_neg c]
      by_cases d : (m : Int) = k
      · simp only [if_pos d]
        exact step_choice_me W b g gs sh h k hk m (by omega) hs hb
      · simp only [if_neg d]
        by_cases e1 : (scAt sh m).ch = true
        · by_cases e2 : sh.cl = false
          · simp only [if_pos (And.intro e1 e2)]
            exact step_choice_wait W b g gs sh h k hk m (by omega) (by omega) e1 e2 hs hb
          · simp only [if_neg (fun t : (scAt sh m).ch = true ∧ sh.cl = false => e2 t.2)]
            exact step_choice_careless W b g gs sh h k hk m (by omega) (by omega) e1 (by simpa using e2) hs hb
        · simp only [if_neg (fun t : (scAt sh m).ch = true ∧ sh.cl = false => e1 t.1)]
          exact step_choice_turn W b g gs sh h k hk m (by omega) (by omega) (by simpa using e1) hs hb
  | turn j =>
    rw [hs] at hok
    obtain ⟨h0, h1⟩ := hok
    obtain ⟨m, rfl⟩ := Int.eq_ofNat_of_zero_le h0
    by_cases c : firstOf sh m k = true
    · simp only [if_pos c]
      exact step_turn_wait W b g gs sh h k hk m (by omega) c hs hb
    · simp only [if_neg c]
      exact step_turn_go W b g gs sh h k hk m (by omega) (by simpa using c) hs hb
  | inside => exact step_inside W b g gs sh h k hk hs hb
end Go.Proofs.Ytjjnglngldfglaa.P
