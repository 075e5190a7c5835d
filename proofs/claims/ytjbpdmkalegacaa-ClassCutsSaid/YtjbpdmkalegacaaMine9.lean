/- The printed texts' often repeated tactics, under short names. -/
import Derived.Test.YtjbpdmkalegacaaMine5
namespace Go.Proofs.YtjbpdmkalegacaaW.Mine
open Go.RowKit Go.Proofs.YtjbpdmkalegacaaW.PrintWords Go.Proofs.YtjbpdmkalegacaaW.PrintLast Go.Proofs.YtjbpdmkalegacaaW.PrintMore
set_option hygiene false in
macro "zb_" : tactic => `(tactic| (repeat (first | (with_reducible first | exact HB.out | apply below_alloc | apply pw_below_drewN | apply below_drew1) | exact HB.out)))
set_option hygiene false in
macro "zargs_" : tactic => `(tactic| ((try simp only [List.map_toArray, List.map_cons, List.map_nil]); first | done | rfl | (simp only [List.length_drop, List.length_take]; rfl)))
set_option hygiene false in
macro "zcases_" : tactic => `(tactic| ((case hd => rfl); (case hg => rfl); (case hr => first | (go_simp; done) | (go_simp; rfl))))
set_option hygiene false in
macro "zclr_" : tactic => `(tactic| ((try clear hb); (try clear hb2); (try clear hk); (try clear hi)))
set_option hygiene false in
macro "zrow_" : tactic => `(tactic| (with_reducible repeat (first | apply Kd.R_alloc | apply Kd.R_drewN | apply Kd.R_drew)))
set_option hygiene false in
macro "zblk_" : tactic => `(tactic| (with_reducible repeat (first | refine blk_drewN ?_ _ | refine blk_drew ?_ | refine blk_alloc ?_ _)))
set_option hygiene false in
macro "zrf_" : tactic => `(tactic| (first | rfl | (simp; done) | (simp [*]; done)))
set_option hygiene false in
macro "zrg_" : tactic => `(tactic| (first | rfl | (simp [errW_none, errW_some] <;> rfl) | (simp [*, errW_none, errW_some] <;> rfl)))
set_option hygiene false in
macro "zw1_" a0:ident : tactic => `(tactic| (repeat (first | (with_reducible first | exact HB.out | apply below_alloc | apply pw_below_drewN | apply below_drew1 | refine below_set ?_ $(a0).out) | exact HB.out)))
set_option hygiene false in
macro "zw2_" a0:ident a1:ident : tactic => `(tactic| (repeat (first | (with_reducible first | exact HB.out | apply below_alloc | apply pw_below_drewN | apply below_drew1 | refine below_set ?_ $(a0).out | refine below_set ?_ $(a1).out) | exact HB.out)))
set_option hygiene false in
macro "zw3_" a0:ident a1:ident a2:ident : tactic => `(tactic| (repeat (first | (with_reducible first | exact HB.out | apply below_alloc | apply pw_below_drewN | apply below_drew1 | refine below_set ?_ $(a0).out | refine below_set ?_ $(a1).out | refine below_set ?_ $(a2).out) | exact HB.out)))
set_option hygiene false in
macro "zw4_" a0:ident a1:ident a2:ident a3:ident : tactic => `(tactic| (repeat (first | (with_reducible first | exact HB.out | apply below_alloc | apply pw_below_drewN | apply below_drew1 | refine below_set ?_ $(a0).out | refine below_set ?_ $(a1).out | refine below_set ?_ $(a2).out | refine below_set ?_ $(a3).out) | exact HB.out)))
set_option hygiene false in
macro "zw5_" a0:ident a1:ident a2:ident a3:ident a4:ident : tactic => `(tactic| (repeat (first | (with_reducible first | exact HB.out | apply below_alloc | apply pw_below_drewN | apply below_drew1 | refine below_set ?_ $(a0).out | refine below_set ?_ $(a1).out | refine below_set ?_ $(a2).out | refine below_set ?_ $(a3).out | refine below_set ?_ $(a4).out) | exact HB.out)))
set_option hygiene false in
macro "zw6_" a0:ident a1:ident a2:ident a3:ident a4:ident a5:ident : tactic => `(tactic| (repeat (first | (with_reducible first | exact HB.out | apply below_alloc | apply pw_below_drewN | apply below_drew1 | refine below_set ?_ $(a0).out | refine below_set ?_ $(a1).out | refine below_set ?_ $(a2).out | refine below_set ?_ $(a3).out | refine below_set ?_ $(a4).out | refine below_set ?_ $(a5).out) | exact HB.out)))
end Go.Proofs.YtjbpdmkalegacaaW.Mine
