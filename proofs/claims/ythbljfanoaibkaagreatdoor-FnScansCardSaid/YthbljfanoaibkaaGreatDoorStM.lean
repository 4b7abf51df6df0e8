/- A picture behind a scan, in plain words. -/
import Derived.Test.YthbljfanoaibkaaGreatDoorPaE
import Derived.Test.YthbljfanoaibkaaGreatDoorNiA
namespace Go.Proofs.YthbljfanoaibkaaGreatDoor
open Go.RowKit Go.ChangeShapes Go.WideShapes Go.ChangeAt
set_option linter.unusedVariables false
set_option linter.unusedSimpArgs false
theorem frk_at {ps : List Int} {n j : Nat} {z : Int} (h : (frk ps n)[j]? = some z) : ∃ m : Nat, z = (m : Int) ∧ m < n := by
  rw [frk, List.getElem?_map, Option.map_eq_some_iff] at h
  obtain ⟨m, hm, rfl⟩ := h
  have := List.mem_of_getElem? hm
  exact ⟨m, rfl, by simpa using (List.mem_filter.1 this).1⟩
/-- the first trail of a contact -/
def fsT (c : Int × Int) : Tr := ⟨c.1, c.2, 0, 0, 400, 0, 1, 0⟩
/-- the trails behind the first j free contacts -/
def stk (kp : List Tr) (fr : List Int) (cs : List (Int × Int)) (j : Nat) : List Tr := kp ++ ((fr.take (min j (6 - kp.length))).map fun (z : Int) => fsT (cs.getD z.toNat (0, 0)))
theorem stk_zero {kp : List Tr} {fr : List Int} {cs : List (Int × Int)} : stk kp fr cs 0 = kp := by simp [stk]
theorem stk_len {kp : List Tr} {fr : List Int} {cs : List (Int × Int)} {j : Nat} (hj : j ≤ fr.length) : (stk kp fr cs j).length = kp.length + min j (6 - kp.length) := by
  rw [stk, List.length_append, List.length_map, List.length_take]; omega
theorem stk_le {kp : List Tr} {fr : List Int} {cs : List (Int × Int)} {j : Nat} (h : kp.length ≤ 6) : (stk kp fr cs j).length ≤ 6 := by
  rw [stk, List.length_append, List.length_map, List.length_take]; omega
theorem stk_yes {kp : List Tr} {fr : List Int} {cs : List (Int × Int)} {j m : Nat} {a b : Int} (hz : fr[j]? = some (m : Int)) (hc : cs[m]? = some (a, b)) (hl : (stk kp fr cs j).length < 6) : stk kp fr cs (j + 1) = stk kp fr cs j ++ [⟨a, b, 0, 0, 400, 0, 1, 0⟩] := by
  have hj := lt_of_get hz
  rw [stk_len (by omega)] at hl
  rw [stk, stk, show min (j + 1) (6 - kp.length) = j + 1 by omega, show min j (6 - kp.length) = j by omega, take_snoc hz, List.map_append, List.append_assoc]
  simp [fsT, List.getD, hc]
theorem stk_no {kp : List Tr} {fr : List Int} {cs : List (Int × Int)} {j : Nat} (hj : j < fr.length) (hl : ¬ (stk kp fr cs j).length < 6) : stk kp fr cs (j + 1) = stk kp fr cs j := by
  rw [stk_len (by omega)] at hl
  rw [stk, stk, show min (j + 1) (6 - kp.length) = min j (6 - kp.length) by omega]
/-- the dropped contacts behind the first j free ones -/
def drk (n : Nat) (d : Int) (j : Nat) : Int := d + ((j - (6 - n) : Nat) : Int)
theorem drk_zero {n : Nat} {d : Int} : drk n d 0 = d := by simp [drk]
theorem drk_yes {kp : List Tr} {fr : List Int} {cs : List (Int × Int)} {d : Int} {j : Nat} (hj : j < fr.length) (hl : (stk kp fr cs j).length < 6) : drk kp.length d (j + 1) = drk kp.length d j := by
  rw [stk_len (by omega)] at hl
  rw [drk, drk, show j + 1 - (6 - kp.length) = 0 by omega, show j - (6 - kp.length) = 0 by omega]
theorem drk_no {kp : List Tr} {fr : List Int} {cs : List (Int × Int)} {d : Int} {j : Nat} (hj : j < fr.length) (hk : kp.length ≤ 6) (hl : ¬ (stk kp fr cs j).length < 6) : drk kp.length d (j + 1) = drk kp.length d j + 1 := by
  rw [stk_len (by omega)] at hl
  rw [drk, drk]; omega
theorem drk_bd {n : Nat} {d : Int} {j : Nat} : d ≤ drk n d j ∧ drk n d j ≤ d + j := by unfold drk; omega
/-- the trails of a picture behind a scan, the dropped contacts -/
def fKp (ts : List Tr) (cs : List (Int × Int)) : List Tr := kpk (mvs ts) (fPs (mvs ts) cs) cs ts.length
def fFr (ts : List Tr) (cs : List (Int × Int)) : List Int := frk (fPs (mvs ts) cs) cs.length
def stT (ts : List Tr) (cs : List (Int × Int)) : List Tr := stk (fKp ts cs) (fFr ts cs) cs (fFr ts cs).length
def stD (ts : List Tr) (d : Int) (cs : List (Int × Int)) : Int := min (drk (fKp ts cs).length d (fFr ts cs).length) 360
theorem fKp_len {ts : List Tr} {cs : List (Int × Int)} : (fKp ts cs).length ≤ ts.length := kpk_len
theorem stT_len {ts : List Tr} {cs : List (Int × Int)} (h : ts.length ≤ 6) : (stT ts cs).length ≤ 6 := stk_le (Nat.le_trans fKp_len h)
/-- the code of a step -/
def spCode (ts : List Tr) (s d : Int) (cs : List (Int × Int)) : Int := if pnCode ts s d cs = 0 then (if s = 60 then 3 else 0) else pnCode ts s d cs
/-- the picture that StepPicture answers -/
def fStT (ts : List Tr) (s d : Int) (cs : List (Int × Int)) : List Tr := if spCode ts s d cs = 0 then stT ts cs else []
def fStS (ts : List Tr) (s d : Int) (cs : List (Int × Int)) : Int := if spCode ts s d cs = 0 then s + 1 else 0
def fStD (ts : List Tr) (s d : Int) (cs : List (Int × Int)) : Int := if spCode ts s d cs = 0 then stD ts d cs else 0
theorem sp_ok {ts : List Tr} {s d : Int} {cs : List (Int × Int)} (h : spCode ts s d cs = 0) : pnCode ts s d cs = 0 ∧ s ≠ 60 := by
  unfold spCode at h
  split at h
  · rename_i h1
    split at h
    · simp at h
    · rename_i h2; exact ⟨h1, h2⟩
  · rename_i h1; exact absurd h h1
theorem fStT_len {ts : List Tr} {s d : Int} {cs : List (Int × Int)} : (fStT ts s d cs).length ≤ 6 := by
  unfold fStT
  split
  · rename_i h
    exact stT_len (pc_facts (pn_ok (sp_ok h).1).1).1
  · simp
/-- a trail behind a scan is valid -/
theorem fTkT {T : Tr} {z : Int} {cs : List (Int × Int)} (h : trT T = true) (hc : ctsB cs = true) (hz : z = -1 ∨ ∃ m : Nat, z = (m : Int) ∧ m < cs.length) : trT (fTk T z cs) = true := by
  rcases hz with rfl | ⟨m, rfl, hm⟩
  · rw [fTk_miss]; exact missT h
  · obtain ⟨⟨a, b⟩, hab⟩ := get_of_lt hm
    rw [fTk_hit hab]
    exact hitT h (ctsB_of hc hab)
theorem liB_mk {T : Tr} (h1 : trT T = true) (h2 : ¬ T.t = 2) : liB T = true := by rw [liB, h1, decide_eq_true h2]; rfl
theorem kpk_ok {ts : List Tr} {cs : List (Int × Int)} (hT : tsB ts = true) (hc : ctsB cs = true) : tsB (fKp ts cs) = true := by
  rw [tsB, List.all_eq_true]
  intro T hm
  rw [fKp, kpk, List.mem_filter, List.mem_map] at hm
  obtain ⟨⟨k, hk, rfl⟩, hl⟩ := hm
  have hk : k < ts.length := by simpa using hk
  obtain ⟨T, hx⟩ := get_of_lt (xs := mvs ts) (k := k) (by rw [mvs_len]; exact hk)
  obtain ⟨z, hz⟩ := get_of_lt (xs := fPs (mvs ts) cs) (k := k) (by rw [fPs_len, mvs_len]; exact hk)
  have e1 : (mvs ts).getD k t00 = T := by simp [List.getD, hx]
  have e2 : (fPs (mvs ts) cs).getD k 0 = z := by simp [List.getD, hz]
  rw [e1, e2] at hl ⊢
  refine liB_mk (fTkT (mvs_get hx hT) hc ?_) (by simpa [lvb] using hl)
  rcases fPs_at hz with h | ⟨m, h1, h2, _⟩
  · exact .inl h
  · exact .inr ⟨m, h1, h2⟩
theorem fsT_ok {c : Int × Int} (h : coB c.1 c.2 = true) : liB (fsT c) = true := by
  refine liB_mk ?_ (by simp [fsT])
  have hm : moB c.1 c.2 0 0 400 = true := by unfold moB; rw [h]; rfl
  show trB c.1 c.2 0 0 400 0 1 0 = true
  unfold trB; rw [hm]; rfl
theorem stT_ok {ts : List Tr} {cs : List (Int × Int)} (hT : tsB ts = true) (hc : ctsB cs = true) : tsB (stT ts cs) = true := by
  rw [tsB, stT, stk, List.all_append, Bool.and_eq_true]
  refine ⟨kpk_ok hT hc, ?_⟩
  rw [List.all_eq_true]
  intro T hm
  rw [List.mem_map] at hm
  obtain ⟨z, hz, rfl⟩ := hm
  obtain ⟨j, hj⟩ := List.getElem?_of_mem (List.mem_of_mem_take hz)
  obtain ⟨m, rfl, hm⟩ := frk_at hj
  obtain ⟨⟨a, b⟩, hab⟩ := get_of_lt hm
  rw [Int.toNat_natCast, show cs.getD m (0, 0) = (a, b) by simp [List.getD, hab]]
  exact fsT_ok (ctsB_of hc hab)
/-- a step keeps a picture valid -/
theorem st_ok {ts : List Tr} {s d : Int} {cs : List (Int × Int)} (hp : pcB ts s d = true) (hc : ctsB cs = true) (hs : s ≠ 60) : pcB (stT ts cs) (s + 1) (stD ts d cs) = true := by
  obtain ⟨h6, hs0, hd0, hT⟩ := pc_facts hp
  have h1 := stT_ok hT hc
  have h2 := stT_len (cs := cs) h6
  have h3 := drk_bd (n := (fKp ts cs).length) (d := d) (j := (fFr ts cs).length)
  have h4 : inB (s + 1) 0 60 = true := by simp [inB]; omega
  have h6 : 0 ≤ stD ts d cs ∧ stD ts d cs ≤ 360 := by unfold stD; omega
  have h5 : inB (stD ts d cs) 0 360 = true := by unfold inB; simp; omega
  rw [pcB, h1, h4, h5, decide_eq_true h2]; rfl
end Go.Proofs.YthbljfanoaibkaaGreatDoor
