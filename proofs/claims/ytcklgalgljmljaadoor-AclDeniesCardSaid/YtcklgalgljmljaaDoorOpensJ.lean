/- OpensJ: a text of this claim's proof, as printed or written, without what the claim does not use. -/
import Derived.Test.YtcklgalgljmljaaDoorOpens
import Derived.Test.YtcklgalgljmljaaDoorQx13
namespace Go.Proofs.YtcklgalgljmljaaDoor.OpensJ
open Go.RowKit Go.Proofs.YtcklgalgljmljaaDoorW.PrintWords Go.Proofs.YtcklgalgljmljaaDoor.Opens Go.Proofs.YtcklgalgljmljaaDoor.Q
theorem step (fuel : Nat) (d : Kd S25) (hd : d.sz = 5) (h : ∀ m, m ≤ fuel → At Tryd.prog 25 d (fun _ => True) m) : At Tryd.prog 25 (F25 d) (fun _ => True) (fuel + 1) := by
  have hs1 : At Tryd.prog 22 (Kd.slice 9 Kd.string) (fun _ => True) fuel := by
    cases fuel with
    | zero => exact zero
    | succ m => exact mono_wf (slice Tryd.underlying22 (by kernel_rfl) (string Tryd.underlying9)) (fun _ _ => trivial)
  have hs2 : At Tryd.prog 23 (Kd.slice 25 d) (fun _ => True) fuel := by
    cases fuel with
    | zero => exact zero
    | succ m => exact mono_wf (slice Tryd.underlying23 (by rw [hd]; kernel_rfl) (h m (by omega))) (fun _ _ => trivial)
  exact mono_wf (struct Tryd.underlying25 (by kernel_rfl) (fields_cons (int Tryd.underlying3) (by kernel_rfl) (fields_cons (int Tryd.underlying2) (by kernel_rfl) (fields_cons (string Tryd.underlying9) (by kernel_rfl) (fields_cons hs1 (by kernel_rfl) (fields_one hs2 (by kernel_rfl)))))) (fun x : S25 => (x.f0, x.f1, x.f2, x.f3, x.f4)) (fun y => ⟨y.1, y.2.1, y.2.2.1, y.2.2.2.1, y.2.2.2.2⟩) (fun _ => rfl)) (fun _ _ => trivial)
theorem upto : ∀ (fuel k : Nat), fuel ≤ k → At Tryd.prog 25 (Kd.upto F25 5 [9, 25] k) (fun _ => True) fuel
  | 0, _, _ => zero
  | fuel + 1, k, h => by
    obtain ⟨k, rfl⟩ : ∃ j, k = j + 1 := ⟨k - 1, by omega⟩
    exact step fuel _ (sz25 k) (fun m hm => upto m k (by omega))
theorem opens (fuel : Nat) : At Tryd.prog 25 k25 (fun _ => True) fuel := fix_ (fun fuel => upto fuel fuel (Nat.le_refl _)) fuel
end Go.Proofs.YtcklgalgljmljaaDoor.OpensJ
