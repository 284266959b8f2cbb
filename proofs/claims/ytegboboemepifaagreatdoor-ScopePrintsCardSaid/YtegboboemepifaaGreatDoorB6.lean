/- Free labels -/
import Derived.Test.YtegboboemepifaaGreatDoorB3
namespace Go.Proofs.YtegboboemepifaaGreatDoor
open Go.Gl
set_option linter.unusedVariables false
set_option linter.unusedSimpArgs false
theorem count_group (f : EP → List Int) (c : Int) (L : List Int) (hL : L.Nodup) : ∀ (R : List EP), (∀ x ∈ R, x.Label ∈ L) → (L.flatMap fun l => R.flatMap fun x => if x.Label = l then f x else []).count c = (R.flatMap f).count c
  | [], _ => by
    have : (L.flatMap fun l => ([] : List EP).flatMap fun x => if x.Label = l then f x else []) = [] := by
      rw [List.flatMap_eq_nil_iff]; intro x _; rfl
    rw [this]; rfl
  | x :: R, h => by
    have ih := count_group f c L hL R (fun y hy => h y (by simp [hy]))
    have e1 : ∀ (M : List Int), (M.flatMap fun l => (x :: R).flatMap fun x => if x.Label = l then f x else []).count c = (M.flatMap fun l => if x.Label = l then f x else []).count c + (M.flatMap fun l => R.flatMap fun x => if x.Label = l then f x else []).count c := by
      intro M
      induction M with
      | nil => rfl
      | cons y M ih => simp only [List.flatMap_cons, List.count_append] at *; omega
    have e2 : ∀ M : List Int, M.Nodup → (M.flatMap fun l => if x.Label = l then f x else []).count c = if x.Label ∈ M then (f x).count c else 0 := by
      intro M
      induction M with
      | nil => intro _; simp
      | cons y M ih =>
        intro hM
        obtain ⟨h1, h2⟩ := List.nodup_cons.1 hM
        rw [List.flatMap_cons, List.count_append, ih h2]
        by_cases hy : x.Label = y
        · subst hy; simp [h1]
        · simp [hy]
    rw [e1, ih, e2 L hL, if_pos (h x (by simp)), List.flatMap_cons, List.count_append]
theorem kids_all (m : MRS) (plug : List Int) : ∀ (R : List EP), R.flatMap (kidsOf m plug) = ((R.flatMap (·.Args)).map fun a => atv m plug a.Var).filter fun l => decide (0 ≤ l)
  | [] => rfl
  | x :: R => by rw [List.flatMap_cons, kids_all m plug R, List.flatMap_cons, List.map_append, List.filter_append]; rfl
theorem count_all {m : MRS} (g : Good m) (plug : List Int) {l : Int} (hl : 0 ≤ l) : ((labs m).flatMap (chil m plug)).count l = ((m.Rels.flatMap (·.Args)).map fun a => atv m plug a.Var).count l := by
  unfold chil
  rw [count_group (kidsOf m plug) l (labs m) (labs_nodup m) m.Rels (fun x hx => (mem_labs g).2 ⟨x, hx, rfl⟩), kids_all, List.count_filter (by simpa using hl)]
theorem count_one_map (φ : Arg → Int) {l : Int} {a : Arg} (ha : φ a = l) : ∀ (A : List Arg), a ∈ A → 1 ≤ (A.map φ).count l
  | A, h => List.count_pos_iff.2 (List.mem_map.2 ⟨a, h, ha⟩)
theorem count_two_map (φ : Arg → Int) {l : Int} {a b : Arg} (ha : φ a = l) (hb : φ b = l) (hab : a ≠ b) : ∀ (A : List Arg), a ∈ A → b ∈ A → 2 ≤ (A.map φ).count l
  | [], h, _ => by simp at h
  | x :: A, h, h' => by
    rw [List.map_cons, List.count_cons]
    rcases List.mem_cons.1 h with e | h1
    · rcases List.mem_cons.1 h' with e' | h1'
      · exact absurd (e.trans e'.symm) hab
      · have := count_one_map φ hb A h1'; rw [← e, ha, if_pos (by simp)]; omega
    · rcases List.mem_cons.1 h' with e' | h1'
      · have := count_one_map φ ha A h1; rw [← e', hb, if_pos (by simp)]; omega
      · have := count_two_map φ ha hb hab A h1 h1'; omega
def isFree (m : MRS) (l : Int) : Prop := ¬ isArg m l ∧ l ≠ m.Top
instance (m : MRS) (l : Int) : Decidable (isFree m l) := inferInstanceAs (Decidable (_ ∧ _))
def fre (m : MRS) : List Int := (labs m).filter fun l => decide (isFree m l)
theorem atv_self {m : MRS} (g : Good m) (plug : List Int) {l : Int} (h : isLab m l) : atv m plug l = l := by
  have hn : l ∉ hols m := fun hh => ((mem_hols g).1 hh).2.1 h
  unfold atv
  rw [lookup_none _ _ hn]
  simp [h]
theorem atv_inv {m : MRS} (plug : List Int) {v l : Int} (h : atv m plug v = l) (h0 : 0 ≤ l) (hl : l ∉ plug) : v = l := by
  unfold atv at h
  split at h
  · rename_i z hz
    exact absurd ((lookup_mem _ _ _ _ hz).2.1) (by rw [h]; exact hl)
  · split at h
    · exact h
    · omega
theorem isArg_iff {m : MRS} {v : Int} : isArg m v ↔ ∃ a ∈ m.Rels.flatMap (·.Args), a.Var = v := by
  unfold isArg
  constructor
  · rintro ⟨x, hx, a, ha, h⟩; exact ⟨a, List.mem_flatMap.2 ⟨x, hx, ha⟩, h⟩
  · rintro ⟨a, ha, h⟩
    obtain ⟨x, hx, ha⟩ := List.mem_flatMap.1 ha
    exact ⟨x, hx, a, ha, h⟩
theorem valid_fre {m : MRS} (g : Good m) {plug : List Int} (hA : ArgP m plug) (hF : FormP m plug) (l : Int) : l ∈ plug ↔ l ∈ fre m := by
  have hcnt : ∀ l ∈ labs m, ((m.Rels.flatMap (·.Args)).map fun a => atv m plug a.Var).count l = if l = atv m plug m.Top then 0 else 1 := fun l hl => by
    rw [← count_all g plug (labs_range l hl).1]
    exact hF.cnt l hl
  unfold fre
  rw [List.mem_filter, decide_eq_true_eq]
  constructor
  · intro hl
    have hlab := hA.lab l hl
    have hisl := (mem_labs g).1 hlab
    refine ⟨hlab, ?_⟩
    obtain ⟨i, hi⟩ := List.getElem?_of_mem hl
    have hil := (List.getElem?_eq_some_iff.1 hi).1
    have hlen := hA.len
    obtain ⟨h, hh⟩ : ∃ h, (hols m)[i]? = some h := ⟨_, List.getElem?_eq_getElem (by omega)⟩
    have hath : atv m plug h = l := by
      unfold atv
      rw [lookup_get _ _ i h l (hols_nodup m) hh hi]
    have hhole := (mem_hols g).1 (List.mem_of_getElem? hh)
    have hne : h ≠ l := fun e => hhole.2.1 (e ▸ hisl)
    have hatl := atv_self g plug hisl
    have hc := hcnt l hlab
    refine ⟨fun harg => ?_, fun htop => ?_⟩
    · obtain ⟨a, ha, hav⟩ := isArg_iff.1 harg
      have h1 : atv m plug a.Var = l := by rw [hav]; exact hatl
      rcases hhole.2.2 with ht | ht
      · have := count_one_map (fun a => atv m plug a.Var) h1 _ ha
        rw [← ht, hath, if_pos rfl] at hc
        omega
      · obtain ⟨b, hb, hbv⟩ := isArg_iff.1 ht
        have h2 : atv m plug b.Var = l := by rw [hbv]; exact hath
        have := count_two_map (fun a => atv m plug a.Var) h1 h2 (fun e => hne (by rw [← hav, ← hbv, e])) _ ha hb
        split at hc <;> omega
    · rcases hhole.2.2 with ht | ht
      · exact hne (ht.trans htop.symm)
      · obtain ⟨b, hb, hbv⟩ := isArg_iff.1 ht
        have h2 : atv m plug b.Var = l := by rw [hbv]; exact hath
        have := count_one_map (fun a => atv m plug a.Var) h2 _ hb
        rw [← htop, hatl, if_pos rfl] at hc
        omega
  · rintro ⟨hlab, hna, hnt⟩
    apply Decidable.byContradiction
    intro hn
    have h0 := (labs_range l hlab).1
    have hroot : l ≠ atv m plug m.Top := fun e => hnt (atv_inv plug e.symm h0 hn).symm
    have hc := hcnt l hlab
    rw [if_neg hroot] at hc
    have : l ∈ (m.Rels.flatMap (·.Args)).map fun a => atv m plug a.Var := List.count_pos_iff.1 (by omega)
    obtain ⟨a, ha, hav⟩ := List.mem_map.1 this
    exact hna (isArg_iff.2 ⟨a, ha, atv_inv plug hav h0 hn⟩)
end Go.Proofs.YtegboboemepifaaGreatDoor

