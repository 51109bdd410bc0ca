/- Own work. -/
import Derived.WalkKit
import Derived.Maps.AppendAt
import Derived.Deep.LoopGhost
import Derived.Orders
import Derived.OrdersIn
import Derived.TacticsIn
import Derived.Sort.LoopGhostIn
import Derived.Laws.BytesArg
import Derived.Lib.ConvBytes
import Derived.Laws.MakeOwn
import Derived.Laws.OwnMore
import Derived.Laws.Slices
import Derived.OrdersHeld
import Derived.Test.YtkfngcfpmilfiaaGreatProg
import Derived.ProofKit
import Derived.OpenShut
import Derived.Laws.LoneSync
import Derived.Deep.Matrix
import Derived.Laws.Rows
import Derived.SizedLaws
import Derived.Stop.BytesEq
import Derived.Shelf.SlSortCmp.WholeK
import Derived.LoopNIn
import Derived.Laws.CopyRow
import Derived.Laws.IdiomCopy
import Derived.RangeFuncRecord
import Derived.RangeFuncSeq
import Derived.RangeFuncCalls
import Derived.RangeFuncKeeps
import Derived.RangeFuncBox
import Derived.RangeFuncNested
set_option linter.unusedVariables false
set_option linter.unusedSimpArgs false
set_option maxHeartbeats 8000000
namespace Go
section
variable {p:Prop}
abbrev aa.{u}:=@List.length_append.{u}
abbrev af.{u}:=@List.getD_eq_getElem?_getD.{u}
abbrev ah:=@Nat.le_of_ble_eq_true
abbrev ai:=@Go.Proofs.Tryz.underlying22
abbrev ak:=@Go.Proofs.Tryz.underlying73
abbrev au.{u}:=@List.getElem?_eq_getElem.{u}
abbrev av:=@Go.Proofs.Tryz.underlying3
abbrev ax.{u}:=@List.length_take.{u}
abbrev ay:=@Go.Proofs.Tryz.underlying5
abbrev az.{u}:=@List.length_drop.{u}
abbrev bg.{u}:=@List.take_of_length_le.{u}
abbrev bi.{u,v}:=@congrArg.{u,v}
abbrev bn.{u,v}:=@List.length_map.{u,v}
abbrev bq.{u}:=@if_neg.{u}
abbrev bu:=@Int.toNat_natCast
abbrev bz:=@Int.lt_or_le
abbrev cz.{u}:=@if_pos.{u}
abbrev df.{u}:=@List.length_replicate.{u}
abbrev dh.{u}:=@List.length_cons.{u}
abbrev di.{u}:=@List.eq_nil_of_length_eq_zero.{u}
abbrev dm:=@Go.Proofs.Tryz.underlying23
abbrev dn:=@Nat.le_refl
abbrev dw.{u}:=@List.length_singleton.{u}
abbrev dx.{u}:=@List.append_assoc.{u}
abbrev dz.{u}:=@List.pairwise_iff_getElem.{u}
abbrev ed.{u}:=@List.take_append_drop.{u}
abbrev ek.{u}:=@List.mem_append.{u}
abbrev fe:=@Nat.eq_zero_or_pos
abbrev fo.{u}:=@Option.some.inj.{u}
abbrev fw.{u}:=@List.mem_cons_of_mem.{u}
abbrev gm:=@Nat.lt_or_ge
abbrev gp.{u}:=@List.getElem?_eq_some_iff.{u}
abbrev gq.{u,v}:=@List.mem_map.{u,v}
abbrev gu.{u}:=@Array.getElem?_eq_some_iff.{u}
abbrev gy.{u}:=@List.mem_of_getElem?.{u}
abbrev gz.{u}:=@List.mem_singleton.{u}
abbrev ib.{u}:=@List.mem_iff_getElem.{u}
abbrev ic:=@Go.Proofs.Tryz.underlying72
abbrev ig.{u}:=@List.nil_append.{u}
abbrev ii.{u,v}:=@Option.map_eq_some_iff.{u,v}
abbrev ik.{u}:=@List.append_nil.{u}
abbrev il.{u}:=@List.mem_cons.{u}
abbrev iv.{u,v}:=@List.pairwise_map.{u,v}
abbrev iw.{u}:=@List.length_nil.{u}
abbrev iy:=@decide_eq_true_iff
abbrev ja:=@Int.emod_lt_of_pos
abbrev jb.{u}:=@List.pairwise_cons.{u}
abbrev jc.{u,v}:=@List.map_append.{u,v}
abbrev jd:=@Go.Proofs.Tryz.underlying27
abbrev je.{u}:=@List.cons_append.{u}
abbrev jf:=@Int.lt_trichotomy
abbrev jg.{u,v}:=@List.map_cons.{u,v}
abbrev jh.{u}:=@List.getElem?_append_left.{u}
abbrev ji.{u}:=@List.getElem?_append_right.{u}
abbrev jk:=@Int.emod_nonneg
abbrev jl.{u}:=@Option.some.injEq.{u}
abbrev jm:=@Go.Proofs.Tryz.underlying175
abbrev jo.{u}:=@List.sublist_flatten_of_mem.{u}
abbrev jq:=@Go.Sem.run_bind
abbrev jr:=@List.mem_range
abbrev jv.{u}:=@List.flatten_cons.{u}
abbrev jw:=@Go.Result.andThen_ok
abbrev jy.{u}:=@Array.length_toList.{u}
abbrev kg:=@Int.emod_eq_of_lt
abbrev ko:=@Go.Value.slice.injEq
abbrev ku.{u}:=@List.mem_of_mem_take.{u}
abbrev kv.{u}:=@List.pairwise_append.{u}
abbrev ky:=@Int.toNat_of_nonneg
abbrev kz.{u}:=@List.length_reverse.{u}
abbrev lc:=@Go.Proofs.Tryz.underlying173
abbrev lh.{u,v}:=@Option.map_some.{u,v}
abbrev ll:=@Int.mul_le_mul_of_nonneg_right
abbrev lm:=@Nat.mod_eq_of_lt
abbrev lq.{u}:=@List.flatten_append.{u}
abbrev lu.{u}:=@List.mem_of_mem_drop.{u}
abbrev lv:=@Bool.and_eq_true
abbrev mf.{u}:=@List.filter_cons_of_neg.{u}
abbrev mg.{u}:=@List.getElem_mem.{u}
abbrev mh.{u}:=@List.Pairwise.imp_of_mem.{u}
abbrev mo:=@decide_eq_false
abbrev mr.{u,v}:=@List.getElem?_map.{u,v}
abbrev ng.{u}:=@List.Sublist.length_le.{u}
abbrev ni:=@Int.le_refl
abbrev nk.{u}:=@List.drop_eq_getElem_cons.{u}
abbrev nu.{u}:=@List.getElem?_eq_none.{u}
abbrev ny.{u}:=@List.mem_flatten.{u}
abbrev nz:=@decide_eq_true
abbrev og.{u}:=@List.drop_of_length_le.{u}
abbrev oh:=@Nat.zero_add
abbrev ol:=@Classical.not_not
abbrev oq:=@Nat.zero_le
abbrev ou.{u}:=@List.singleton_append.{u}
abbrev ow:=@Nat.add_assoc
abbrev oz:=@Go.Proofs.Tryz.underlying240
abbrev pg:=@Decidable.not_not
abbrev pq:=@Nat.le_trans
abbrev pu:=@Go.run_underlying
abbrev pz:=@Go.Proofs.Tryz.underlying25
abbrev qa.{u}:=@List.take_length.{u}
abbrev qb.{u}:=@List.mem_filter.{u}
abbrev qc:=@Int.mul_assoc
abbrev qd.{u}:=@List.filter_cons_of_pos.{u}
abbrev qf.{u}:=@Array.getElem?_eq_getElem.{u}
abbrev qg:=@Go.Sem.run_pure
abbrev qh:=@Go.Proofs.Tryz.underlying9
abbrev qi.{u}:=@List.getElem?_take.{u}
abbrev qj.{u}:=@Option.getD_some.{u}
abbrev ql.{u}:=@List.pairwise_singleton.{u}
abbrev qm:=@Go.Proofs.Tryz.underlying89
abbrev qo.{u}:=@List.length_flatten.{u}
abbrev qp.{u,v,w}:=@List.map_map.{u,v,w}
abbrev qw:=@Nat.add_zero
abbrev qx.{u}:=@List.getElem?_take_of_lt.{u}
abbrev qy:=@Nat.mul_one
abbrev qz.{u}:=@List.size_toArray.{u}
abbrev rf.{u}:=@List.take_add_one.{u}
abbrev rq.{u}:=@Array.getElem?_toList.{u}
abbrev ry:=@Classical.em
abbrev rz:=@Int.pow_zero
abbrev si:=@decide_eq_false_iff_not
abbrev sj.{u}:=@List.all_eq_true.{u}
abbrev su.{u}:=@List.ext_getElem.{u}
abbrev sw:=@decide_eq_decide
abbrev tq:=@Int.pow_succ
abbrev uf.{u}:=@List.getElem_take.{u}
abbrev ug.{u,v}:=@List.map_nil.{u,v}
abbrev uh.{u,v,w}:=@getElem!_pos.{u,v,w}
abbrev ui.{u}:=@List.getElem?_drop.{u}
abbrev uj:=@Nat.sub_add_cancel
abbrev uk.{u,v}:=@Prod.mk.injEq.{u,v}
abbrev ul.{u}:=@List.perm_append_comm.{u}
abbrev um:=@Nat.eq_of_beq_eq_true
abbrev uo:=@Int.le_ediv_iff_mul_le
abbrev uq.{u}:=@List.filter_append.{u}
abbrev ut:=@Nat.add_comm
abbrev uu.{u,v}:=@List.map_toArray.{u,v}
abbrev uy.{u}:=@List.sum_cons.{u}
abbrev uz.{u}:=@List.append_toArray.{u}
abbrev ve.{u}:=@List.filter_sublist.{u}
abbrev vg.{u,v}:=@List.map_congr_left.{u,v}
abbrev vk.{u}:=@List.ext_getElem?.{u}
abbrev vo:=@Nat.mul_le_mul_right
abbrev vv.{u}:=@List.drop_eq_nil_of_le.{u}
abbrev vw.{u}:=@List.not_mem_nil.{u}
abbrev vz.{u}:=@Array.toList_append.{u}
abbrev wh:=@Int.mul_one
abbrev wo:=@decide_eq_true_eq
abbrev wu:=@of_decide_eq_true
abbrev ww.{u}:=@Array.getElem?_modify.{u}
abbrev wz:=@Int.pow_nonneg
abbrev xc:=@Int.mul_comm
abbrev xe.{u}:=@List.nodup_cons.{u}
abbrev xg:=@Bool.false_eq_true
abbrev xh.{u}:=@Array.replicate_succ.{u}
abbrev xk.{u}:=@Array.replicate_zero.{u}
abbrev xm:=@List.nodup_range
abbrev xq.{u}:=@if_false.{u}
abbrev xu.{u}:=@List.drop_drop.{u}
abbrev xw.{u}:=@List.drop_sublist.{u}
abbrev xx.{u}:=@List.getElem?_set.{u}
abbrev xz.{u}:=@List.getElem_drop.{u}
abbrev yc.{u}:=@List.nodup_append.{u}
abbrev yf.{u}:=@List.take_zero.{u}
abbrev yg:=@Nat.lt_trichotomy
abbrev yh:=@Nat.mod_lt
abbrev yj:=@Nat.add_mul
abbrev yl.{u}:=@Classical.choose_spec.{u}
abbrev ym.{u}:=@List.Perm.append_left.{u}
abbrev yo.{u}:=@List.length_filter_le.{u}
abbrev yt.{u,v}:=@List.getElem_map.{u,v}
abbrev yu.{u}:=@List.mem_reverse.{u}
abbrev yw:=@Int.add_zero
abbrev yx:=@Nat.sub_zero
abbrev yz:=@Int.mul_nonneg
abbrev za:=@Int.pow_add
abbrev zb.{u}:=@List.replicate_succ'.{u}
abbrev ze.{u}:=@List.getElem?_replicate.{u}
abbrev zf:=@List.length_range
abbrev zg.{u}:=@List.push_toArray.{u}
abbrev zh:=@Nat.min_eq_left
abbrev zi:=@List.getElem?_range
abbrev zk.{u}:=@Array.getD_eq_getD_getElem?.{u}
abbrev zl:=@Go.Proofs.Tryz.underlying193
abbrev zm:=@Int.natCast_emod
abbrev zo.{u,v}:=@List.mem_flatMap.{u,v}
abbrev zq:=@BitVec.toNat_ofInt
abbrev zt:=@Int.lt_or_eq_of_le
abbrev zu:=@List.getElem_range
abbrev zw:=@Nat.mod_eq_sub_mod
abbrev zx:=@Go.Proofs.Tryz.underlying108
abbrev zy:=@Int.ediv_lt_of_lt_mul
abbrev Aa:=@Int.ediv_nonneg
abbrev Ad:=@Int.natCast_mul
abbrev Ae:=@List.range_succ
abbrev Af.{u}:=@Array.toArray_toList.{u}
abbrev Ag:=@Int.pow_pos
abbrev Ah.{u,v}:=@List.flatMap_cons.{u,v}
abbrev Ai:=@Nat.mul_comm
abbrev Aj:=@Go.Proofs.Tryz.zeroValue108
abbrev Ak:=@Go.run_sliceAt_slice
abbrev Al:=@true_and
abbrev Am.{u}:=@List.eq_of_mem_replicate.{u}
abbrev Ao:=@Go.Proofs.Tryz.underlying254
abbrev Ap.{u}:=@Eq.trans.{u}
abbrev Ar.{u}:=@List.flatten_nil.{u}
abbrev Av.{u}:=@List.length_eq_zero_iff.{u}
abbrev Ay:=@Go.Proofs.Tryz.underlying3
abbrev Az:=@and_true
abbrev Ba:=@Go.wpIn_mono
abbrev Bb.{u}:=@List.take_append_of_le_length.{u}
abbrev Bc:=@Go.Proofs.Tryz.underlying4
abbrev Be:=@Int.le_of_lt
abbrev Bf.{u}:=@List.Perm.append_right.{u}
abbrev Bg.{u}:=@List.mem_replicate.{u}
abbrev Bh:=@Nat.pos_of_ne_zero
abbrev Bi:=@Nat.zero_mul
abbrev Bj.{u}:=@Option.toList_some.{u}
abbrev Bl.{u}:=@Array.getElem?_setIfInBounds.{u}
abbrev Bn:=@Bool.or_eq_true
abbrev Bo.{u}:=@List.drop_left'.{u}
abbrev Bp.{u,v}:=@Option.map_none.{u,v}
abbrev Bq:=@Go.Proofs.Tryz.zeroValue3
abbrev Br:=@Go.Addr.mk.injEq
abbrev Bt.{u,v}:=@List.map_take.{u,v}
abbrev Bu:=@Go.callsIn_of_wp
abbrev Bv:=@Go.Proofs.Tryz.underlying108
abbrev Bw.{u}:=@Array.getElem?_append.{u}
abbrev Bz.{u}:=@List.countP_le_length.{u}
abbrev Ca.{u}:=@List.attach_map_subtype_val.{u}
abbrev Cb.{u}:=@List.reverse_perm.{u}
abbrev Cc:=@Go.Proofs.Tryz.underlying72
abbrev Ce:=@Go.Proofs.Tryz.underlying89
abbrev Cf:=@Int.fdiv_eq_ediv_of_nonneg
abbrev Cg.{u}:=@List.take_left.{u}
abbrev Ch:=@Nat.mul_pos
abbrev Ci:=@Nat.one_mul
abbrev Cj:=@Nat.pow_le_pow_right
abbrev Ck:=@Go.Proofs.Tryz.sizeOf108
abbrev Cm:=@Int.ediv_le_self
abbrev Cn:=@Int.natCast_zero
abbrev Co:=@Go.IntKind.wrap_i64
abbrev Cq:=@Nat.le_add_right
abbrev Cr:=@Nat.succ_mul
abbrev Cs:=@Go.Proofs.Tryz.underlying0
abbrev Cu:=@Go.Proofs.Tryz.underlying4
abbrev Cv:=@Go.Proofs.Tryz.underlying5
abbrev Cw:=@Go.Proofs.Tryz.underlying9
abbrev Cx:=@Go.Proofs.Tryz.zeroValue72
abbrev Cy:=@Go.Proofs.Tryz.zeroValue89
abbrev Cz.{u}:=@List.countP_eq_zero.{u}
abbrev Da.{u}:=@List.filter_eq_self.{u}
abbrev Db.{u,v}:=@List.flatMap_append.{u,v}
abbrev Dc.{u}:=@List.getElem_set_ne.{u}
abbrev De.{u}:=@List.length_erase_of_mem.{u}
abbrev Dg:=@Go.Proofs.Tryz.isAgg108
abbrev Dh:=@UInt8.toNat_ofNat_of_lt'
abbrev Di:=@Go.Proofs.Tryz.underlying212
abbrev Dj:=@Go.IntKind.wrap_u8
abbrev Dk.{u}:=@List.cons.injEq.{u}
abbrev Dl.{u}:=@List.sum_append.{u}
abbrev Dm.{u}:=@List.take_left'.{u}
abbrev Dn:=@Go.Result.ok.injEq
abbrev Dp:=@Go.Proofs.Tryz.zeroValue0
abbrev Dq:=@Go.Proofs.Tryz.zeroValue4
abbrev Dr:=@Go.Proofs.Tryz.zeroValue5
abbrev Dt:=@Go.Proofs.Tryz.zeroValue9
abbrev Du:=@Nat.lt_or_gt_of_ne
abbrev Dv:=@Nat.mul_div_cancel
abbrev Dw:=@Go.Proofs.Tryz.underlying242
abbrev Dx:=@Go.Proofs.Tryz.underlying243
abbrev Dy:=@Go.Proofs.Tryz.underlying273
abbrev Dz:=@Go.Proofs.Tryz.underlying277
abbrev Ea:=@Go.Proofs.Tryz.underlying291
abbrev Eb:=@Go.Proofs.Tryz.underlying292
abbrev Ec:=@Int.mul_add
abbrev Ed.{u}:=@List.getElem?_cons_succ.{u}
abbrev Ee.{u,v}:=@Option.bind_eq_some_iff.{u,v}
abbrev Ef.{u}:=@List.set_eq_take_append_cons_drop.{u}
abbrev Eg.{u}:=@Array.getElem?_eq_none.{u}
abbrev Eh:=@Int.sub_zero
abbrev Ei.{u}:=@List.countP_congr.{u}
abbrev Ej.{u}:=@List.drop_zero.{u}
abbrev El.{u}:=@List.getElem_replicate.{u}
abbrev Em.{u}:=@List.isEmpty_cons.{u}
abbrev En.{u}:=@List.length_pos_of_mem.{u}
abbrev Eo.{u}:=@List.not_of_lt_findIdx.{u}
abbrev Ep:=@Nat.le_mul_of_pos_left
abbrev Er:=@Nat.sub_self
abbrev Es:=@Go.Proofs.Tryz.sizeOf3
abbrev Et:=@Go.Proofs.Tryz.underlying59
abbrev Eu:=@Go.Proofs.Tryz.zeroValue242
abbrev Ev:=@Go.Proofs.Tryz.zeroValue243
abbrev Ew:=@Go.Proofs.Tryz.zeroValue273
abbrev Ex:=@Go.Proofs.Tryz.zeroValue277
abbrev Ey:=@Go.Proofs.Tryz.zeroValue291
abbrev Ez:=@Go.Proofs.Tryz.zeroValue292
abbrev Fa:=@not_false_eq_true
abbrev Fb:=@Go.Proofs.Tryz.underlying57
abbrev Fe.{u}:=@List.replicate_append_replicate.{u}
abbrev Ff.{u}:=@List.countP_mono_left.{u}
abbrev Fg.{u}:=@List.pairwise_reverse.{u}
abbrev Fh.{u}:=@List.set_append_right.{u}
abbrev Fj:=@Go.RowKit.Below.refl
abbrev Fp:=@Go.IntKind.wrap_u64
abbrev Fq.{u,v}:=@List.map_reverse.{u,v}
abbrev Fs:=@Nat.and_two_pow_sub_one_eq_mod
abbrev Fu:=@Nat.div_eq_of_lt
abbrev Fv:=@Go.Proofs.Tryz.zeroValue59
abbrev Fw:=@Bool.not_true
abbrev Fx.{u}:=@List.all_cons.{u}
abbrev Fy.{u,v}:=@List.map_drop.{u,v}
abbrev Fz:=@Go.Proofs.Tryz.sizeOf72
abbrev Ga:=@Go.Proofs.Tryz.sizeOf89
abbrev Gb:=@Go.Proofs.Tryz.underlying123
abbrev Gc.{u,v}:=@Array.getElem_mapIdx.{u,v}
abbrev Gf.{u}:=@Classical.not_forall.{u}
abbrev Gg:=@Int.add_mul
abbrev Gh:=@Int.mul_le_mul_of_nonneg_left
abbrev Gi.{u}:=@List.findIdx_getElem.{u}
abbrev Gj.{u}:=@List.getElem_reverse.{u}
abbrev Gl.{u}:=@List.mem_append_left.{u}
abbrev Gm.{u}:=@List.mem_erase_of_ne.{u}
abbrev Gn.{u}:=@List.reverse_reverse.{u}
abbrev Gp:=@Go.Proofs.Tryz.isAgg3
abbrev Gq:=@Int.min_eq_left
abbrev Gr:=@Int.natCast_pow
abbrev Gs.{u}:=@List.length_set.{u}
abbrev Gt.{u}:=@List.replicate_succ.{u}
abbrev Gu.{u}:=@List.replicate_zero.{u}
abbrev Gv:=@Go.run_callFunc_extern
abbrev Gw:=@Int.zero_mul
abbrev Gx.{u}:=@List.sum_nil.{u}
abbrev Gy:=@Nat.two_pow_add_eq_or_of_lt
abbrev Gz:=@Go.Proofs.Tryz.func100
abbrev Ha:=@Go.Proofs.Tryz.isAgg72
abbrev Hd:=@Go.Proofs.Tryz.isAgg89
abbrev He:=@Go.Proofs.Tryz.sizeOf0
abbrev Hf:=@Go.Proofs.Tryz.sizeOf4
abbrev Hg:=@Go.Proofs.Tryz.sizeOf5
abbrev Hl:=@Go.Proofs.Tryz.sizeOf9
abbrev Hm:=@Go.run_call_add
abbrev Ho.{u}:=@List.set_cons_zero.{u}
abbrev Hq:=@Nat.not_lt
abbrev Hr:=@Go.Proofs.Tryz.sizeOf242
abbrev Ht:=@Go.Proofs.Tryz.sizeOf243
abbrev Hu:=@Go.Proofs.Tryz.sizeOf273
abbrev Hw:=@Go.Proofs.Tryz.sizeOf277
abbrev Hy:=@Go.Proofs.Tryz.sizeOf291
abbrev Hz:=@Go.Proofs.Tryz.sizeOf292
abbrev Ia:=@Go.grownCap_le_maxLen
abbrev Ib:=@or_false
abbrev Ic.{u}:=@Array.all_eq_true.{u}
abbrev Ie.{u}:=@Array.getElem_mem.{u}
abbrev Ig.{u,v}:=@List.foldl_append.{u,v}
abbrev Ih.{u}:=@List.idxOf_append.{u}
abbrev Ii:=@Nat.add_mod_right
abbrev Ij:=@Nat.le_succ
abbrev Ik.{u}:=@Ne.symm.{u}
abbrev Il:=@Go.Proofs.Tryz.func22
abbrev Im:=@Go.Proofs.Tryz.func27
abbrev Io:=@Go.Proofs.Tryz.func54
abbrev Ip:=@Go.Proofs.Tryz.isAgg0
abbrev Iq:=@Go.Proofs.Tryz.isAgg4
abbrev Ir:=@Go.Proofs.Tryz.isAgg5
abbrev Iu:=@Go.Proofs.Tryz.isAgg9
abbrev Iw:=@Bool.false_or
abbrev Iy:=@Go.Proofs.Tryz.isAgg242
abbrev Iz:=@Go.Proofs.Tryz.isAgg243
abbrev Ja:=@Go.Proofs.Tryz.isAgg273
abbrev Jb:=@Go.Proofs.Tryz.isAgg277
abbrev Jc:=@Go.Proofs.Tryz.isAgg291
abbrev Jd:=@Go.Proofs.Tryz.isAgg292
abbrev Je:=@Go.Proofs.Tryz.sizeOf59
abbrev Jf:=@Go.Proofs.Tryz.underlying100
abbrev Jg:=@Go.Proofs.Tryz.underlying125
abbrev Jh:=@Go.Proofs.Tryz.underlying142
abbrev Ji:=@Go.Proofs.Tryz.underlying266
abbrev Jj:=@BitVec.toNat_and
abbrev Jk.{u}:=@List.drop_length.{u}
abbrev Jl:=@Int.le_trans
abbrev Jm:=@Int.sub_self
abbrev Jn:=@Go.Proofs.Tryz.func109
abbrev Jo:=@Go.Proofs.Tryz.func113
abbrev Jp:=@Go.Proofs.Tryz.func149
abbrev Jq:=@Go.Proofs.Tryz.func151
abbrev Jr:=@Go.Proofs.Tryz.func157
abbrev Js:=@Go.Proofs.Tryz.func206
abbrev Jt:=@Go.Proofs.Tryz.func207
abbrev Ju:=@Go.Proofs.Tryz.func230
abbrev Jv:=@Go.Proofs.Tryz.func231
abbrev Jw:=@Go.Proofs.Tryz.isAgg59
abbrev Jy.{u}:=@if_true.{u}
abbrev Jz:=@Go.setRow_other
abbrev Ke:=@BitVec.toNat_or
abbrev Ki.{u}:=@List.map_id.{u}
abbrev Kj:=@Nat.add_mod
abbrev Kk:=@Go.Proofs.Tryz.func11
abbrev Kl:=@Go.Proofs.Tryz.func15
abbrev Km:=@Go.Proofs.Tryz.func48
abbrev Kn:=@Go.Proofs.Tryz.func77
abbrev Ko:=@Go.Proofs.Tryz.func89
abbrev Kq:=@Go.setRow_heap
abbrev AD:=List (List Int)
abbrev AE:=List (Int × Int)
abbrev AF:=Option Addr
abbrev AG:=List Value
abbrev AH:=List Int
abbrev AI:=Array Bool
theorem G(h:p:=by omega):p:=h
theorem cA(h:p:=by kernel_rfl):p:=h
theorem cC(h:p:=by decide):p:=h
theorem cD(h:p:=by simp):p:=h
theorem cE(h:p:=by first |assumption|omega|decide):p:=h
theorem cF(h:p:=by assumption):p:=h
theorem cG(h:p:=by first |omega|(dsimp only;omega)):p:=h
theorem cH(h:p:=by intro v a;simp at a;rcases a with rfl|rfl<;>rfl):p:=h
theorem cI(h:p:=by intro v a;simp at a;rcases a with rfl|rfl|rfl|rfl<;>rfl):p:=h
theorem cJ(h:p:=by simp;omega):p:=h
end
end Go
namespace Go.Eng
theorem Z.{u} {α:Sort u} {a:α}:a=a:=rfl
end Go.Eng
namespace Go.Eng
open Go Go.RowKit
section
variable {P:Program} {a:Act} {w w0 w':World} {n t k B sz:Nat} {v:Value} {A:AF} {xs:AG}
abbrev Env:=List (Nat × Value)
def lk:Env->Nat->Option Value
 |[],_=>none
 |(k,v)::r,t=>bif Nat.beq k t then some v else lk r t
def ev (L:Env):Operand->Option Value
 | .tmp t=>lk L t
 | .const v=>some v
 | .global g=>some (.pointer (some ⟨g,0,none⟩))
 | .func f=>some (.func (.func f) #[] #[])
structure Nd where
 n:Nat
 ds:List Deferred
 rd:Option Nat:=none
def NF (rd:Option Nat):Fence:= {Fence.wide with round:=rd}
def JV (o:Oper):Bool:=match o.op with| .defer _=>false|_=>true
def qF:Option Nat->List Oper->Bool
 |none,_=>true
 |some _,l=>l.all JV
theorem bDc {rd:Option Nat} {o:Oper} {K:Act->World->Prop} {Q:Exit->Act->World->Prop} (d:rd=none\/JV o=true) (h:o.wp P a w K Q):o.wpIn (NF rd) 0 P a w K Q:=by
  refine⟨λ_ _=>trivial,?_⟩
  have e:o.semAt (NF rd).round a.eval=execOp a.eval o:=by
    rcases d with rfl|d
    · exact Oper.semAt_none _ _
    exact Oper.semAt_eq _ _ _ (λc hc=>by simp[JV,hc] at d)
  rw[e];unfold Oper.wp at h;generalize (execOp a.eval o).run P w=r at*;cases r with
  | ok x w'=>
    cases x<;>simp only[Oper.upon,Oper.uponIn] at h ⊢
    all_goals first
      |exact h
      |exact h.elim
      | (refine ⟨λb=>(by cases b),?_⟩
         exact callsIn_wide (n:=0).2 h)
      | (refine ⟨λb=>(by cases b),?_⟩
         intro c cs _;obtain⟨v,g,hR,hs⟩:=h c cs
         exact⟨v,g,hR,stepsIn_wide.2 hs⟩)
  |halt x w'=>cases x<;>simp only[Oper.upon,Oper.uponIn] at h ⊢ <;>exact h
theorem aNl {P:Program} {rd:Option Nat} {ops:Array Oper} {Q:Exit->Act->World->Prop} (b: ¬LetsOut Q): ∀(l:List Oper) (a:Act) (w:World),qF rd l=true->wpList P ops Q l a w->wpListIn (NF rd) 0 P ops Q l a w
 |[],_,_,_,h=>h
 | o::l,a,w,hd,h=>by
  have g:rd=none\/JV o=true:=by
   cases rd with
   |none=>exact .inl rfl
   |some _=>simp only[qF,Fx,lv] at hd;exact .inr hd.1
  have e:qF rd l=true:=by
   cases rd with
   |none=>rfl
   |some _=>simp only[qF,Fx,lv] at hd;exact hd.2
  unfold wpList at h;unfold wpListIn;split
  ·rename_i d;rw[cz d] at h;rcases h with h|h
   ·exact bDc g (Oper.wp_mono (λa w h=>aNl b l a w e h) h)
   exact absurd h.2 b
  rename_i d;rw[bq d] at h;exact⟨λ_ _=>trivial,aNl b l _ _ e h⟩
theorem aKl {P:Program} {rd:Option Nat} {ops:Array Oper} {Q:Exit->Act->World->Prop} (d: ¬LetsOut Q) (b:qF rd ops.toList=true): ∀(bh:Nat) (ab:AI) (a:Act) (w:World),wpAny P .any ops Q bh ab a w->wpAnyIn (NF rd) 0 P .any ops Q bh ab a w
 |0,_,_,_,h=>h
 | bh+1,ab,a,w,h=>by
  refine⟨h.1,λi hi=> ?_⟩;have h1:=h.2 i hi;unfold wpOp at h1;unfold wpOpIn;cases ho:ops[i]? with
  |none=>simp only[ho] at h1 ⊢;exact aKl d b bh _ _ _ h1
  | some o=>
   simp only[ho] at h1 ⊢
   have g:rd=none\/JV o=true:=by
    cases rd with
    |none=>exact .inl rfl
    |some _=>exact .inr (sj.1 b o (Array.mem_toList_iff.2 (Array.mem_of_getElem? ho)))
   split
   ·rename_i e;rw[cz e] at h1;rcases h1 with h1|h1
    ·exact bDc g (Oper.wp_mono (λa w h=>aKl d b bh _ a w h) h1)
    exact absurd h1.2 d
   rename_i e;rw[bq e] at h1;exact⟨λ_ _=>trivial,aKl d b bh _ _ _ h1⟩
instance:Coe Nd Nat:=⟨Nd.n⟩
instance:Coe Nat Nd:=⟨λn=>⟨n,[],none⟩⟩
structure Sat (n:Nd) (L:Env) (a:Act):Prop where
 size:a.tmps.size=n.n
 defers:a.defers=n.ds
 val: ∀t v,lk L t=some v->a.tmps[t]? =some v
theorem Sat.getD {n:Nd} {L:Env} (h:Sat n L a) (b:lk L t=some v):a.tmps.getD t undef=v:=by
 rw[zk,h.val t v b];rfl
theorem Sat.ev {n:Nd} {L:Env} (h:Sat n L a) {x:Operand} (b:ev L x=some v):a.eval x=v:=by
 cases x with
 |tmp t=>exact h.getD b
 |const u=>exact fo b
 |global g=>exact fo b
 |func f=>exact fo b
theorem EL {L:Env} {u:Value} (h:lk ((k,v)::L) t=some u):(k=t/\v=u)\/(k≠t/\lk L t=some u):=by
 unfold lk at h;cases hb:Nat.beq k t with
 |true=>rw[hb] at h;exact .inl ⟨um hb,fo h⟩
 |false=>rw[hb] at h;exact .inr ⟨Nat.ne_of_beq_eq_false hb,h⟩
theorem Sat.put {n:Nd} {L:Env} (h:Sat n L a) {d:Nat} (g:Nat.blt d n=true) (v:Value):Sat n ((d,v)::L) (a.put (some d) v):=by
 have b:d<n:=ah g;refine⟨by simp[Act.put,h.size],by simp[Act.put,h.defers],λt u hu=> ?_⟩;rcases EL hu with⟨rfl,rfl⟩|⟨e,hl⟩
 ·simp[Act.put,h.size,b]
 rw [<-h.val t u hl];simp[Act.put,e]
def Sub (L1 L:Env):Prop:= ∀t v,lk L1 t=some v->lk L t=some v
theorem Sub.nil {L:Env}:Sub [] L:=λt v h=>by simp[lk] at h
theorem Sub.cons {L1 L:Env} (h:lk L t=some v) (hs:Sub L1 L):Sub ((t,v)::L1) L:=by
 intro s u hu;rcases EL hu with⟨rfl,rfl⟩|⟨_,hl⟩
 ·exact h
 exact hs s u hl
theorem Sub.refl (L:Env):Sub L L:=λ_ _ h=>h
theorem Sat.sub {n:Nd} {L L1:Env} (h:Sat n L a) (hs:Sub L1 L):Sat n L1 a:=⟨h.size,h.defers,λt v b=>h.val t v (hs t v b)⟩
structure Row where
 e:TypeId
 sz:Nat
 A:AF
 n:Nat
 c:Nat
 xs:AG
 ro:Bool:=false
def Row.lies (B:Nat) (w:World) (r:Row):Prop:=
 match r.ro with
 |false=>w.ownsRow B r.e r.sz (.slice r.A r.n r.c) r.n r.xs
 |true=> ∃g cur fr,r.A=some ⟨g,0,none⟩/\B<=g/\w.heap[g]? =some (.cells cur r.e fr)/\r.n<=maxLen/\r.n<=r.c/\r.xs.length=r.n*r.sz/\cur.toList.take (r.n*r.sz)=r.xs
def Row.apart (r r':Row):Prop:= ∀a a',r.A=some a->r'.A=some a'->a.block≠a'.block
theorem Row.apart_symm {r r':Row} (h:r.apart r'):r'.apart r:=λa b h1 d=>Ik (h b a d h1)
def aHo:Obj->Bool
 | .cells .. =>false
 |_=>true
def Late (w0 w:World):Prop:=w0.drawn<=w.drawn/\ ∀(k:Nat) (o:Obj),w0.heap[k]? =some o->aHo o=true->w.heap[k]? =some o
theorem Late.refl (w:World):Late w w:=⟨dn _,λ_ _ h _=>h⟩
theorem Late.trans (h:Late w0 w) (a:Late w w'):Late w0 w':=⟨pq h.1 a.1,λk o h1 b=>a.2 k o (h.2 k o h1 b) b⟩
theorem Late.draws (h:w.drawn<=k):Late w {w with drawn:=k}:=⟨h,λ_ _ h _=>h⟩
theorem Late.alloc (w:World) (o:Obj):Late w (w.alloc o):=⟨dn _,λk _ h _=>by
 have ci:k<w.heap.size:=(gu.1 h).1;unfold World.alloc;rw[Array.getElem?_push,bq G]
 exact h⟩
structure Hp (B:Nat) (w0 w:World) (R:List Row):Prop where
 below:Below B w0 w
 base:B<=w.heap.size
 own: ∀r∈R,r.lies B w
 apart:R.Pairwise Row.apart
 late:Late w0 w
theorem Hp.refl (w:World):Hp w.heap.size w w []:=⟨Fj _ _,dn _,λ_ h=>(by cases h), .nil,Late.refl _⟩
theorem Hp.tail {r:Row} {R:List Row} (h:Hp B w0 w (r::R)):Hp B w0 w R:=
 ⟨h.below,h.base,λq a=>h.own q (.tail _ a),(jb.1 h.apart).2,h.late⟩
theorem Hp.right {R' R:List Row} (h:Hp B w0 w (R'++R)):Hp B w0 w R:=by
 induction R' with
 |nil=>exact h
 |cons r R' ih=>exact ih h.tail
theorem Hp.perm {R R':List Row} (h:Hp B w0 w R) (hp:R.Perm R'):Hp B w0 w R':=
 ⟨h.below,h.base,λq a=>h.own q (hp.mem_iff.2 a),hp.pairwise h.apart Row.apart_symm,h.late⟩
theorem Hp.sublist {R R':List Row} (h:Hp B w0 w R) (hs:R'.Sublist R):Hp B w0 w R':=
 ⟨h.below,h.base,λq a=>h.own q (hs.subset a),h.apart.sublist hs,h.late⟩
theorem Hp.sel {R:List Row} (h:Hp B w0 w R) (is:List Nat) (hn:is.Nodup) {R':List Row} (hR:is.map (λi=>R[i]?)=R'.map some):Hp B w0 w R':=by
 refine⟨h.below,h.base,λq e=> ?_,?_,h.late⟩
 ·have h1:some q∈R'.map some:=gq.2 ⟨q,e,rfl⟩;rw[<-hR] at h1;obtain⟨i,_,hi⟩:=gq.1 h1;exact h.own q (gy hi)
 have h1:(R'.map some).Pairwise (λx y=> ∀r r',x=some r->y=some r'->Row.apart r r'):=by
  rw[<-hR];refine iv.2 (hn.imp ?_);intro i j d r r' hi b;rcases Du d with ci|ci
  ·exact dz.1 h.apart i j (gp.1 hi).1 (gp.1 b).1 ci|>λa=>by
    rw[(gp.1 hi).2,(gp.1 b).2] at a;exact a
  exact Row.apart_symm (dz.1 h.apart j i (gp.1 b).1 (gp.1 hi).1 ci|>λa=>by
   rw[(gp.1 hi).2,(gp.1 b).2] at a;exact a)
 exact(iv.1 h1).imp λa=>a _ _ rfl rfl
theorem Hp.drawn {R:List Row} (h:Hp B w0 w R) (k:Nat) (hk:w.drawn<=k):Hp B w0 {w with drawn:=k} R:=
 ⟨⟨h.below.os,h.below.tape,h.below.output,h.below.size,h.below.block⟩,h.base,λr a=>by
  have:=h.own r a;unfold Row.lies at*
  cases qq:r.ro<;>simp only[qq] at this ⊢ <;>exact this,h.apart,h.late.trans (Late.draws hk)⟩
theorem Row.lies_cells {r:Row} (h:r.lies B w) {a:Addr} (b:r.A=some a): ∃cs e j,w.heap[a.block]? =some (.cells cs e j):=by
 unfold Row.lies at h;cases qq:r.ro with
 | false=>
  simp only[qq] at h;rcases h.2 with⟨d,_⟩|⟨g,cap,cur,d,_,i,_⟩
  ·simp only[ko] at d;rw[d.1] at b;cases b
  simp only[ko] at d;rw[d.1] at b;obtain rfl:=fo b;exact⟨_,_,_,i⟩
 |true=>
  simp only[qq] at h;obtain⟨g,cur,j,k,_,i,_⟩:=h;rw[k] at b;obtain rfl:=fo b;exact⟨_,_,_,i⟩
theorem Row.lies_of_block {r:Row} (h:r.lies B w) (hk: ∀a,r.A=some a->w'.heap[a.block]? =w.heap[a.block]?):r.lies B w':=by
 unfold Row.lies at*;cases qq:r.ro with
 | false=>
  simp only[qq] at h ⊢;refine⟨h.1,?_⟩;rcases h.2 with hn|⟨g,cap,cur,e,hb,d,rest⟩
  ·exact .inl hn
  refine .inr ⟨g,cap,cur,e,hb,?_,rest⟩;have b:r.A=some ⟨g,0,none⟩:=by injection e
  rw[hk _ b];exact d
 |true=>
  simp only[qq] at h ⊢;obtain⟨g,cur,i,b,hb,d,rest⟩:=h;exact⟨g,cur,i,b,hb,by rw[hk _ b];exact d,rest⟩
theorem Row.lies_lt {r:Row} (h:r.lies B w): ∀a,r.A=some a->B<=a.block/\a.block<w.heap.size:=by
 intro a b;unfold Row.lies at h;cases qq:r.ro with
 |false=>
  simp only[qq] at h;exact h.lt a.block (by simp[Value.ownBlock,b])
 |true=>
  simp only[qq] at h;obtain⟨g,cur,i,d,hb,e,_⟩:=h;rw[d] at b;obtain rfl:=fo b;exact⟨hb,(gu.1 e).1⟩
theorem Hp.join {R Rn:List Row} (h:Hp B w0 w R) (b:Hp w.heap.size w w' Rn):Hp B w0 w' (Rn++R):=by
 refine⟨h.below.trans (b.below.mono h.base),pq h.base b.base,λr d=> ?_,?_,h.late.trans b.late⟩
 ·rcases ek.1 d with d|d
  ·have h1:=b.own r d;unfold Row.lies at*;cases qq:r.ro with
   |false=>
    simp only[qq] at h1 ⊢;refine⟨h1.1,?_⟩;rcases h1.2 with hn|⟨g,cap,cur,m,hb,rest⟩
    ·exact .inl hn
    exact .inr ⟨g,cap,cur,m,pq h.base hb,rest⟩
   |true=>
    simp only[qq] at h1 ⊢;obtain⟨g,cur,j,k,hb,rest⟩:=h1;exact⟨g,cur,j,k,pq h.base hb,rest⟩
  have h1:=h.own r d;exact Row.lies_of_block h1 λa e=>b.below.block a.block (Row.lies_lt h1 a e).2
 refine kv.2 ⟨b.apart,h.apart,λr d q l a i e o=> ?_⟩;have h1:=(Row.lies_lt (b.own r d) a e).1;have p:=(Row.lies_lt (h.own q l) i o).2;omega
theorem XD {α:Type}: ∀(a:Ask α) (w:World),w.drawn<=(w.ask a).2.drawn
 | .done _,_=>dn _
 | .ask what range k,w=>by
  unfold World.ask;simp only;split
  ·exact XD _ _
  exact pq (Ij _) (XD _ {w with drawn:=w.drawn+1})
theorem bAd (w:World) (c:Sys):w.drawn<=(w.sys c).2.drawn:=by
 have h:=XD (Kernel.perform c w.os) w;unfold World.sys;split
 ·exact dn _
 rename_i a;rw[a] at h;exact h
theorem bMr {ε α β:Type} {x:Except ε α} {f:α->Except ε β} {r:β} (h:Except.bind x f= .ok r): ∃a,f a= .ok r:=by
 cases x with
 |error e=>cases h
 |ok a=>exact⟨a,h⟩
theorem aTp {b a:Addr} {u:TypeId} {c:Bool} {r:World × List Addr} (h:w.viewStore P b u a v c= .ok r):r.1.drawn=w.drawn:=by
 unfold World.viewStore at h;simp only[bind,pure,Except.pure] at h
 repeat' first
  |(cases h;done)
  |(split at h)
  |(replace h:=bMr h;cases h;rename_i h)
 all_goals (simp only[Except.ok.injEq] at h;rw[<-h])
theorem bFl {a:Addr} {b:Bool} {r:World × List Addr} (h:w.farStore P a v b= .ok r):r.1.drawn=w.drawn:=by
 unfold World.farStore at h;split at h
 ·split at h
  ·rename_i d;simp only[Except.ok.injEq] at h;rw[<-h];exact aTp d
  cases h
 cases h
theorem SX {α:Type}: ∀(m:Sem α) (w w':World) (a:α),m.run P w= .ok a w'->w.drawn<=w'.drawn:=by
  intro m
  induction m with
  |pure a=>intro w w' b h;simp only[Sem.run,Dn] at h;rw[h.2];exact dn _
  | load m a k ih=>
    intro w w' b h;simp only[Sem.run] at h;split at h
    · exact ih _ _ _ _ h
    split at h
    · exact ih _ _ _ _ h
    cases h
  | store m a v k ih=>
    intro w w' b h;cases v<;>simp only[Sem.run] at h
    all_goals first
      |(cases h;done)
      | (split at h
         · split at h
           · cases h
           have h1:=ih _ _ _ h
           exact h1
         split at h
         · rename_i g
           have h1:=ih _ _ _ h;have d:=bFl g;simp only at d;rw[d] at h1;exact h1
         cases h)
  |new o k ih=>intro w w' b h;have h1:=ih w.heap.size {w with heap:=w.heap.push o} w' b h;exact h1
  |shape r k ih=>intro w w' b h;exact ih _ _ _ _ h
  | freeze a n k ih=>
    intro w w' b h;have:=ih _ _ _ h;have e:(w.freeze a n).drawn=w.drawn:=by unfold World.freeze;split<;>rfl
    rwa[e] at this
  |frozen a k ih=>intro w w' b h;exact ih _ _ _ _ h
  | getObj r k ih=>
    intro w w' b h;simp only[Sem.run] at h;split at h
    · cases h
    · exact ih _ _ _ _ h
    cases h
  | setObj r o k ih=>
    intro w w' b h;simp only[Sem.run] at h;split at h
    · cases h
    · have h1:=ih _ _ _ h
      exact h1
    cases h
  | choose q k ih=>
    intro w w' b h;simp only[Sem.run] at h;split at h
    · exact ih _ _ _ _ h
    exact pq (Ij _) (ih _ _ _ _ h)
  | sys c k ih=>
    intro w w' b h;exact pq (bAd w c) (ih _ _ _ _ h)
  |program k ih=>intro w w' b h;exact ih _ _ _ _ h
  |mark m k ih=>intro w w' b h;exact ih _ _ _ h
  |halt x=>intro w w' b h;cases h
structure Rd (w:World) (A:AF) (n c sz:Nat) (xs:AG):Prop where
 len:xs.length=n*sz
 max:n<=9223372036854775807
 le:n<=c
 at_: ∀j v,xs[j]? =some v-> ∃a,A=some a/\w.cell? (a.add j)=some v
def RdC (B:Nat) (w0:World) (R:List Row) (A:AF) (n c sz:Nat) (xs:AG):Prop:= ∀w,Hp B w0 w R->Rd w A n c sz xs
theorem Rd.below {c:Nat} (h:Rd w A n c sz xs) (hb:Below w.heap.size w w'):Rd w' A n c sz xs:=
 ⟨h.len,h.max,h.le,λj v d=>by
  obtain⟨a,b,hc⟩:=h.at_ j v d
  exact⟨a,b,(hb.cell (World.block_lt_of_cell? w _ hc)).trans hc⟩⟩
theorem Rd.c {c:Nat} (h:Rd w A n c sz xs) (R:List Row):RdC w.heap.size w R A n c sz xs:=λ_ a=>h.below a.below
theorem Row.rd {r:Row} (h:r.lies B w):Rd w r.A r.n r.c r.sz r.xs:=by
 unfold Row.lies at h;cases qq:r.ro with
 | false=>
  simp only[qq] at h;refine⟨h.1,?_,?_,λj v a=> ?_⟩
  ·rcases h.2 with⟨_,hn⟩|⟨g,cap,cur,_,_,_,h1,i,_⟩
   ·omega
   unfold maxLen at i;omega
  ·rcases h.2 with⟨_,hn⟩|⟨g,cap,cur,a,_,_,h1,i,_⟩
   ·omega
   simp only[ko] at a;omega
  rcases h.2 with⟨d,hn⟩|⟨g,cap,cur,d,_⟩
  ·have:r.xs.length=0:=by rw[h.1,hn];omega
   rw[nu G] at a;cases a
  have b:r.A=some ⟨g,0,none⟩:=by injection d
  exact⟨_,b,h.cells (g:=g) (by simp[Value.ownBlock,b]) j v a⟩
 |true=>
  simp only[qq] at h;obtain⟨g,cur,m,b,_,o,k,hc,hl,p⟩:=h;unfold maxLen at k;refine⟨hl,k,hc,λj v a=>⟨_,b,?_⟩⟩;have l:(⟨g,0,none⟩:Addr).add j=⟨g,j,none⟩:=by unfold Addr.add;split<;>simp_all
  rw[l,cell_of_row w g j cur r.e m o];rw[<-p,qi] at a;split at a
  ·simpa using a
  cases a
theorem rdR {R:List Row} (i:Nat) {r:Row} (hi:R[i]? =some r):RdC B w0 R r.A r.n r.c r.sz r.xs:=λ_ a=>Row.rd (a.own r (gy hi))
theorem rdr {R:List Row} (i:Nat) {e:Nat} {c:Nat} {ro:Bool} (hi:R[i]? =some ⟨e,sz,A,n,c,xs,ro⟩):RdC B w0 R A n c sz xs:=rdR i hi
theorem RdC.right {R:List Row} {c:Nat} (h:RdC B w0 R A n c sz xs) (R':List Row):RdC B w0 (R'++R) A n c sz xs:=λw a=>h w a.right
theorem RdC.tail {R:List Row} {c:Nat} (h:RdC B w0 R A n c sz xs) {r:Row}:RdC B w0 (r::R) A n c sz xs:=λw a=>h w a.tail
structure fP where
 nrm:Env->List Row->Prop
 ret:Env->List Row->Prop
 ext:Nat->Env->List Row->Prop
end
section
variable {P:Program} {n:Nd} {B:Nat} {w0:World}
section
variable {x y c:Code} {L:Env} {R R1:List Row} {id r s:Nat} {f:FuncId} {args:AG} {Post:Value->List Row->Prop} {fn:Func}
def PQ (n:Nd) (B:Nat) (w0:World) (Q:fP):Exit->Act->World->Prop
 | .normal,a,w=> ∃L R,Sat n L a/\Hp B w0 w R/\Q.nrm L R
 | .ret,a,w=> ∃L R,Sat n L a/\Hp B w0 w R/\Q.ret L R
 | .exit i,a,w=> ∃L R,Sat n L a/\Hp B w0 w R/\Q.ext i L R
 |_,_,_=>False
def W (P:Program) (n:Nd) (B:Nat) (w0:World) (c:Code) (Q:fP) (L:Env) (R:List Row):Prop:=
 ∀a w,Sat n L a->Hp B w0 w R->c.wpIn (NF n.rd) 0 P (PQ n B w0 Q) a w
theorem aA {Q:fP} {L:Env} {R:List Row} (h:W P n B w0 x {Q with nrm:=λL R=>W P n B w0 y Q L R} L R):W P n B w0 (.seq x y) Q L R:=by
 intro a w hs hp;refine wpIn_seq (Ba (h a w hs hp) ?_);intro e d w' b;cases e with
 |normal=>obtain⟨L',R',ge,g,i⟩:=b;exact i d w' ge g
 |exit id=>exact b
 |goto l=>exact b
 |ret=>exact b
 |panic ch=>exact b
 |outgrown=>exact b
theorem aF {Q:fP} {L:Env} {R:List Row} (h:W P n B w0 c {Q with ext:=λi L R=>bif Nat.beq i id then Q.nrm L R else Q.ext i L R} L R):W P n B w0 (.block id c) Q L R:=by
 intro a w hs hp;refine wpIn_block (Ba (h a w hs hp) ?_);intro e j w' b;cases e with
 |normal=>exact b
 | exit i=>
  obtain⟨L',R',ge,g,d⟩:=b;simp only[Exit.inBlock];by_cases hi:i=id
  ·subst hi;rw[cz rfl];exact⟨L',R',ge,g,by simpa using d⟩
  rw [bq hi]
  have hb:Nat.beq i id=false:=by
   cases hb:Nat.beq i id with
   |true=>exact absurd (um hb) hi
   |false=>rfl
  dsimp only at d;rw[hb] at d;exact⟨L',R',ge,g,d⟩
 |goto l=>exact b
 |ret=>exact b
 |panic ch=>exact b
 |outgrown=>exact b
theorem aP {Q:fP} (h:Q.ext id L R):W P n B w0 (.exit id) Q L R:=
 λ_ _ hs hp=>wpIn_exit ⟨L,R,hs,hp,h⟩
theorem aS {Q:fP} (h:Q.ret L R):W P n B w0 .ret Q L R:=λ_ _ hs hp=>wpIn_ret ⟨L,R,hs,hp,h⟩
theorem aG {Q:fP} (h:Q.nrm L R):W P n B w0 .skip Q L R:=λ_ _ hs hp=>wpIn_skip ⟨L,R,hs,hp,h⟩
theorem RN {c:Operand} {Q:fP} {b:Bool} (hc:ev L c=some (.bool b)) (d:b=true->W P n B w0 x Q L R) (e:b=false->W P n B w0 y Q L R):W P n B w0 (.cond c x y) Q L R:=
 λa w hs hp=>wpIn_cond_split (hs.ev hc) (λhb=>d hb a w hs hp) (λhb=>e hb a w hs hp)
theorem aR {c:Operand} {Q:fP} {p:Prop} [Decidable p] (hc:ev L c=some (.bool (decide p))) (a:p->W P n B w0 x Q L R) (b: ¬p->W P n B w0 y Q L R):W P n B w0 (.cond c x y) Q L R:=
 RN hc (λh=>a (wu h)) (λh=>b (of_decide_eq_false h))
theorem bA {c:Operand} {Q:fP} (hc:ev L c=some (.bool true)) (a:W P n B w0 x Q L R):W P n B w0 (.cond c x y) Q L R:=RN hc (λ_=>a) (λh=>by cases h)
theorem aM {c:Operand} {Q:fP} (hc:ev L c=some (.bool false)) (a:W P n B w0 y Q L R):W P n B w0 (.cond c x y) Q L R:=RN hc (λh=>by cases h) (λ_=>a)
theorem aPw {Q:fP} {L1:Env} (b:Sub L1 L) (hR: ∀w,Hp B w0 w R->Hp B w0 w R1) (h:W P n B w0 c Q L1 R1):W P n B w0 c Q L R:=
 λa w hs hp=>h a w (hs.sub b) (hR w hp)
theorem iP {Q j:fP} {L:Env} {R:List Row} (h:W P n B w0 c Q L R) (h1: ∀L R,Q.nrm L R->j.nrm L R) (k: ∀L R,Q.ret L R->j.ret L R) (m: ∀i L R,Q.ext i L R->j.ext i L R):W P n B w0 c j L R:=by
 intro a w hs hp;refine Ba (h a w hs hp) ?_;intro e o w' b;cases e with
 |normal=>obtain⟨L',R',ge,d,g⟩:=b;exact⟨L',R',ge,d,h1 _ _ g⟩
 |exit id=>obtain⟨L',R',ge,d,g⟩:=b;exact⟨L',R',ge,d,m _ _ _ g⟩
 |goto l=>exact b
 |ret=>obtain⟨L',R',ge,d,g⟩:=b;exact⟨L',R',ge,d,k _ _ g⟩
 |panic ch=>exact b
 |outgrown=>exact b
def Fam {σ:Type} (B:Nat) (w0:World) (Lx:σ->Env) (Rx:σ->List Row) (J:σ->Prop) (L:Env) (R:List Row):Prop:=
 ∃x,J x/\Sub (Lx x) L/\ ∀w,Hp B w0 w R->Hp B w0 w (Rx x)
theorem oK {σ:Type} {Q:fP} (Lx:σ->Env) (Rx:σ->List Row) (J:σ->Prop) (μ:σ->Nat)
  (p:Fam B w0 Lx Rx J L R)
  (round: ∀x,J x->W P n B w0 c {Q with nrm:=Fam B w0 Lx Rx (λy=>J y/\μ y<μ x)} (Lx x) (Rx x)):W P n B w0 (.loop c) Q L R:=by
 intro a w hs hp;obtain⟨x0,j,g,m⟩:=p;refine wpIn_loop_ghost (λk a w=> ∃x,μ x=k/\J x/\Sat n (Lx x) a/\Hp B w0 w (Rx x)) (μ x0) ⟨x0,rfl,j,hs.sub g,m w hp⟩ ?_;rintro k a w ⟨x,rfl,q,hs,hp⟩;refine Ba (round x q a w hs hp) ?_;intro e r w' b;cases e with
 |normal=>
  obtain⟨L',R',ge,o,y,⟨d,ci⟩,h,i⟩:=b;exact⟨μ y,ci,y,rfl,d,ge.sub h,i _ o⟩
 |exit id=>exact b
 |goto l=>exact b
 |ret=>exact b
 |panic ch=>exact b
 |outgrown=>exact b
def Ct (P:Program) (f:FuncId) (args:Array Value) (B:Nat) (w0:World) (R:List Row) (Post:Value->List Row->Prop):Prop:=
 ∀w,Hp B w0 w R->Calls P f args w λe w'=> ∃v R',e= .returned v/\Hp B w0 w' R'/\Post v R'
theorem Ct.mono {args:Array Value} {a:Value->List Row->Prop} (h:Ct P f args B w0 R Post) (hp: ∀v R',Post v R'->a v R'):Ct P f args B w0 R a:=
 λw g=>(h w g).mono λ_ _ ⟨v,R',b,d,e⟩=>⟨v,R',b,d,hp _ _ e⟩
theorem Ct.fresh {args:Array Value} (h: ∀w,Hp B w0 w R->Ct P f args w.heap.size w [] Post):
  Ct P f args B w0 R (λv R'=> ∃Rn,R'=Rn++R/\Post v Rn):=
 λw a=>(h w a w (Hp.refl w)).mono λ_ _ ⟨v,Rn,b,d,e⟩=>⟨v,Rn++R,b,a.join d,Rn,rfl,e⟩
theorem Ct.sub {args:Array Value} (hR: ∀w,Hp B w0 w R->Hp B w0 w R1) (h:Ct P f args B w0 R1 Post):Ct P f args B w0 R Post:=
 λw a=>h w (hR w a)
def ini:Nat->AG->Env
 |_,[]=>[]
 |k,v::vs=>(k,v)::ini (k+1) vs
theorem aNk: ∀(vs:AG) (k t:Nat) (v:Value),lk (ini k vs) t=some v->k<=t/\vs[t-k]? =some v:=by
 intro vs
 induction vs with
 |nil=>intro k t v h;simp[ini,lk] at h
 | cons u us ih=>
  intro k t v h;rcases EL h with⟨rfl,rfl⟩|⟨_,hl⟩
  ·simp
  obtain ⟨h1,a⟩:=ih (k+1) t v hl;refine⟨G,?_⟩;have:t-k=(t-(k+1))+1:=G
  rw[this];simpa using a
theorem aSc (k:P.funcs[f]? =some fn) (hb:fn.body=some c) (hl:Nat.ble args.length fn.ntmps=true)
  {Rt:Env->Option Value} (j: ∀L a w v,Sat fn.ntmps L a->Rt L=some v->(results fn a.tmps).run P w= .ok v w)
  (h:W P fn.ntmps B w0 c ⟨λL R'=> ∃v,Rt L=some v/\Post v R',λL R'=> ∃v,Rt L=some v/\Post v R',λ_ _ _=>False⟩ (ini 0 args) R):Ct P f args.toArray B w0 R Post:=by
 intro w o;have p:args.length<=fn.ntmps:=ah hl;refine calls_of_wp k hb (wp_mono (wpIn_wide.1 (h _ w ⟨cJ,rfl,λt v m=> ?_⟩ o)) ?_)
 ·obtain ⟨_,g⟩:=aNk args 0 t v m;simp only[yx] at g;have ci:=(gp.1 g).1;rw[<-g];simp[Bw,ci]
 intro e q w' b;cases e with
 |normal=>obtain⟨L',R',ge,d,v,i,un⟩:=b;exact⟨ge.defers,v,j _ _ _ _ ge i,v,R',rfl,d,un⟩
 |ret=>obtain⟨L',R',ge,d,v,i,un⟩:=b;exact⟨ge.defers,v,j _ _ _ _ ge i,v,R',rfl,d,un⟩
 |exit id=>obtain⟨_,_,_,_,h⟩:=b;exact h.elim
 |goto l=>exact b
 |panic ch=>exact b.elim
 |outgrown=>exact b.elim
theorem fn0 (a:P.funcs[f]? =some fn) (hb:fn.body=some c) (b:fn.results= #[]) (hl:Nat.ble args.length fn.ntmps=true)
  (h:W P fn.ntmps B w0 c ⟨λ_ R'=>Post (.tuple #[]) R',λ_ R'=>Post (.tuple #[]) R',λ_ _ _=>False⟩ (ini 0 args) R):Ct P f args.toArray B w0 R Post:=
 aSc a hb hl (Rt:=λ_=>some (.tuple #[])) (λ_ _ _ v _ d=>by obtain rfl:=fo d;exact results_none b _ _ _) (by simpa using h)
theorem fn1 (a:P.funcs[f]? =some fn) (hb:fn.body=some c) (b:fn.results= #[.tmp r]) (hl:Nat.ble args.length fn.ntmps=true)
  (h:W P fn.ntmps B w0 c ⟨λL R'=> ∃v,lk L r=some v/\Post v R',λL R'=> ∃v,lk L r=some v/\Post v R',λ_ _ _=>False⟩ (ini 0 args) R):Ct P f args.toArray B w0 R Post:=
 aSc a hb hl (Rt:=λL=>lk L r) (λ_ _ _ v hs d=>by rw[results_tmp b,hs.getD d]) h
theorem fn2 (d:P.funcs[f]? =some fn) (hb:fn.body=some c) (e:fn.results= #[.tmp r, .tmp s]) (hl:Nat.ble args.length fn.ntmps=true)
  (h:W P fn.ntmps B w0 c ⟨λL R'=> ∃v u,lk L r=some v/\lk L s=some u/\Post (.tuple #[v,u]) R',λL R'=> ∃v u,lk L r=some v/\lk L s=some u/\Post (.tuple #[v,u]) R',λ_ _ _=>False⟩ (ini 0 args) R):Ct P f args.toArray B w0 R Post:=by
 refine aSc d hb hl (Rt:=λL=>(lk L r).bind λv=>(lk L s).map λu=> .tuple #[v,u]) (λL a w v hs b=> ?_) (iP h ?_ ?_ (λ_ _ _ h=>h))
 ·obtain ⟨x,g,b⟩:=Ee.1 b;obtain⟨u,hu,rfl⟩:=ii.1 b;rw[results_tmp2 e,hs.getD g,hs.getD hu]
 ·rintro L R' ⟨v,u,b,hu,hp⟩;exact⟨_,by simp[b,hu],hp⟩
 rintro L R' ⟨v,u,b,hu,hp⟩;exact⟨_,by simp[b,hu],hp⟩
theorem fn3 {t:Nat} (e:P.funcs[f]? =some fn) (hb:fn.body=some c) (g:fn.results= #[.tmp r, .tmp s, .tmp t]) (hl:Nat.ble args.length fn.ntmps=true)
  (h:W P fn.ntmps B w0 c ⟨λL R'=> ∃v u x,lk L r=some v/\lk L s=some u/\lk L t=some x/\Post (.tuple #[v,u,x]) R',λL R'=> ∃v u x,lk L r=some v/\lk L s=some u/\lk L t=some x/\Post (.tuple #[v,u,x]) R',λ_ _ _=>False⟩ (ini 0 args) R):Ct P f args.toArray B w0 R Post:=by
 refine aSc e hb hl (Rt:=λL=>(lk L r).bind λv=>(lk L s).bind λu=>(lk L t).map λx=> .tuple #[v,u,x]) (λL a w v hs b=> ?_) (iP h ?_ ?_ (λ_ _ _ h=>h))
 ·obtain ⟨x,d,b⟩:=Ee.1 b;obtain⟨u,hu,b⟩:=Ee.1 b;obtain⟨y,i,rfl⟩:=ii.1 b;simp[results,g,hs.val r x d,hs.val s u hu,hs.val t y i]
 ·rintro L R' ⟨v,u,x,b,hu,d,hp⟩;exact⟨_,by simp[b,hu,d],hp⟩
 rintro L R' ⟨v,u,x,b,hu,d,hp⟩;exact⟨_,by simp[b,hu,d],hp⟩
def WR (P:Program) (n:Nd) (B:Nat) (w0:World) (ops:Array Oper) (l:List Oper) (K:Env->List Row->Prop) (L:Env) (R:List Row):Prop:=
 ∀a w (Q:Exit->Act->World->Prop),Sat n L a->Hp B w0 w R->(∀a' w' L' R',Sat n L' a'->Hp B w0 w' R'->K L' R'->Q .normal a' w')->wpList P ops Q l a w
theorem aPq {Q:fP}: ¬LetsOut (PQ n B w0 Q):=λ⟨_,_,h⟩=>h
theorem bK {l:List Oper} {Q:fP} (h:WR P n B w0 l.toArray l Q.nrm L R) (d:qF n.rd l=true:=by exact rfl):W P n B w0 (.region id l.toArray false) Q L R:=
 λa w hs hp=>wpIn_region_lit (aNl aPq l a w d (h a w _ hs hp λ_ _ L' R' ge b hk=>⟨L',R',ge,b,hk⟩))
end
variable {ops:Array Oper} {l:List Oper} {K:Env->List Row->Prop} {L:Env} {R:List Row} {op:Op} {ty:TypeId} {pos:String} {na:Array Edge}
section
variable {d j e:Nat} {v:Value} {Post:Value->List Row->Prop} {b want:Bool} {a:Act} {R1:List Row}
theorem aJ (h:K L R):WR P n B w0 ops [] K L R:=λ_ _ _ hs hp a=>wpList_nil (a _ _ L R hs hp h)
def Yl (P:Program) (n:Nd) (B:Nat) (w0:World) (op:Op) (ty:TypeId) (L:Env) (R:List Row) (v:Value):Prop:=
 ∀(a:Act) (w:World) (o:Oper),o.op=op->o.type=ty->Sat n L a->Hp B w0 w R->(execOp a.eval o).run P w= .ok (.value v) w
def Ac (P:Program) (n:Nd) (B:Nat) (w0:World) (op:Op) (ty:TypeId) (L:Env) (R:List Row) (Post:Value->List Row->Prop):Prop:=
 ∀(a:Act) (w:World) (o:Oper) (K:Act->World->Prop) (Q:Exit->Act->World->Prop),o.op=op->o.type=ty->Sat n L a->Hp B w0 w R->(∀v w' R',Hp B w0 w' R'->Post v R'->K (a.put o.dst v) w')->o.wp P a w K Q
theorem RB (hn:Nat.blt d n=true) (g:Yl P n B w0 op ty L R v) (h:WR P n B w0 ops l K ((d,v)::L) R):WR P n B w0 ops ({dst:=some d,op:=op,type:=ty,pos:=pos,after:=na,guard:=none}::l) K L R:=by
 intro a w Q hs hp e;refine wpList_plain rfl λi b=> ?_;unfold Oper.wp;rw[g a w _ rfl rfl hs hp];exact b _ _ (h _ _ Q (hs.put hn v) hp e)
theorem aFb (hn:Nat.blt d n=true) (i:Ac P n B w0 op ty L R Post) (h: ∀v R',Post v R'->WR P n B w0 ops l K ((d,v)::L) R'):WR P n B w0 ops ({dst:=some d,op:=op,type:=ty,pos:=pos,after:=na,guard:=none}::l) K L R:=by
 intro a w Q hs hp j;exact wpList_plain rfl λb e=>i a w _ b Q rfl rfl hs hp λv w' R' g k=>e _ _ (h v R' k _ _ Q (hs.put hn v) g j)
theorem bZr (g:Ac P n B w0 op ty L R Post) (h: ∀v R',Post v R'->WR P n B w0 ops l K L R'):WR P n B w0 ops ({dst:=none,op:=op,type:=ty,pos:=pos,after:=na,guard:=none}::l) K L R:=by
 intro a w Q hs hp i;exact wpList_plain rfl λb d=>g a w _ b Q rfl rfl hs hp λv w' R' e j=>d _ _ (h v R' j _ _ Q hs e i)
theorem uE (hs:Sat n L a) (e:(ops[j]?).bind (·.dst)=some d) (hb:lk L d=some (.bool b)):yielded ops a.tmps j=some b:=by
 unfold yielded;rw[e];simp only[Option.bind_some];rw[hs.val d _ hb]
theorem aN {dst:Option Nat} (b:(ops[j]?).bind (·.dst)=some d) (hb:lk L d=some (.bool want)) (h:WR P n B w0 ops ({dst:=dst,op:=op,type:=ty,pos:=pos,after:=na,guard:=none}::l) K L R):
  WR P n B w0 ops ({dst:=dst,op:=op,type:=ty,pos:=pos,after:=na,guard:=some (j,want)}::l) K L R:=by
 intro a w Q hs hp e;have h1:=h a w Q hs hp e;have g:=uE hs b hb;unfold wpList at h1 ⊢;rw[cz (by simp[Region.wanted])] at h1;rw[cz (by simp[Region.wanted,g])];exact h1
theorem bUs (g:(ops[j]?).bind (·.dst)=some d) (hb:lk L d=some (.bool b)) (m:(b==want)=false) (hn:Nat.blt e n=true) (h:WR P n B w0 ops l K ((e,undef)::L) R):
  WR P n B w0 ops ({dst:=some e,op:=op,type:=ty,pos:=pos,after:=na,guard:=some (j,want)}::l) K L R:=by
 intro a w Q hs hp i;have k:=uE hs g hb;unfold wpList
 have:Region.wanted {dst:=some e,op:=op,type:=ty,pos:=pos,after:=na,guard:=some (j,want)} (yielded ops a.tmps)=false:=by
  simp only[Region.wanted,k];cases b<;>cases want<;>simp_all
 rw[this];simp only[xg,xq];exact h _ _ Q (hs.put hn undef) hp i
theorem FI (hs:Sat n L a) (b:(ops[j]?).bind (·.dst)=some d) (hb:lk L d=some undef):yielded ops a.tmps j=none:=by
 unfold yielded;rw[b];simp only[Option.bind_some];rw[hs.val d _ hb];rfl
theorem bRb (b:(ops[j]?).bind (·.dst)=some d) (hb:lk L d=some undef) (hn:Nat.blt e n=true) (h:WR P n B w0 ops l K ((e,undef)::L) R):
  WR P n B w0 ops ({dst:=some e,op:=op,type:=ty,pos:=pos,after:=na,guard:=some (j,want)}::l) K L R:=by
 intro a w Q hs hp g;have i:=FI hs b hb;unfold wpList
 have:Region.wanted {dst:=some e,op:=op,type:=ty,pos:=pos,after:=na,guard:=some (j,want)} (yielded ops a.tmps)=false:=by
  simp[Region.wanted,i]
 rw[this];simp only[xg,xq];exact h _ _ Q (hs.put hn undef) hp g
theorem tT (h:lk L d=some v):Sub ((d,v)::L) L:=by
 intro t u hu;rcases EL hu with⟨rfl,rfl⟩|⟨_,hl⟩
 ·exact h
 exact hl
theorem bB (d:Nat) {p:Prop} [Decidable p] (hb:lk L d=some (.bool (decide p))) (g:p->WR P n B w0 ops l K ((d, .bool true)::L) R) (e: ¬p->WR P n B w0 ops l K ((d, .bool false)::L) R):WR P n B w0 ops l K L R:=by
 intro a w Q hs hp b;by_cases h:p
 ·exact g h a w Q (hs.sub (tT (by rw[hb,nz h]))) hp b
 exact e h a w Q (hs.sub (tT (by rw[hb,mo h]))) hp b
theorem gZ {L1:Env} (b:Sub L1 L) (hR: ∀w,Hp B w0 w R->Hp B w0 w R1) (h:WR P n B w0 ops l K L1 R1):WR P n B w0 ops l K L R:=
 λa w Q hs hp d=>h a w Q (hs.sub b) (hR w hp) d
theorem bC {u:Value} (hu:u=v) (h:WR P n B w0 ops l K ((d,v)::L) R):WR P n B w0 ops l K ((d,u)::L) R:=by
 subst hu;exact h
theorem gW (hR:R=R1) (h:WR P n B w0 ops l K L R1):WR P n B w0 ops l K L R:=by
 subst hR;exact h
end
end
end Go.Eng
namespace Go.Eng
open Go Go.RowKit
section
variable {P:Program} {n:Nd} {B:Nat} {w0:World} {L:Env} {R:List Row} {ty:TypeId}
section
variable {x c y:Operand} {v:Value} {b:Bool} {k j:IntKind} {p q:Int}
theorem dI (h:ev L x=some v):Yl P n B w0 (.move x) ty L R v:=by
 intro a w o b _ hs _;simp[execOp,b,hs.ev h]
theorem bY (h:ev L x=some v):Yl P n B w0 (.assign x) ty L R v:=by
 intro a w o b _ hs _;simp[execOp,b,hs.ev h]
theorem aYt {u:Value} (hc:ev L c=some (.bool b)) (e:b=true->ev L x=some v) (g:b=false->ev L y=some u):Yl P n B w0 (.pick c x y) ty L R (bif b then v else u):=by
 intro a w o d _ hs _;cases b with
 |true=>simp[execOp,d,hs.ev hc,hs.ev (e rfl),asBool]
 |false=>simp[execOp,d,hs.ev hc,hs.ev (g rfl),asBool]
theorem bIz (hc:ev L c=some (.bool true)) (a:ev L x=some v):Yl P n B w0 (.pick c x y) ty L R v:=
 aYt (b:=true) (u:=undef) hc (λ_=>a) (λh=>by cases h)
theorem vF (hc:ev L c=some (.bool false)) (a:ev L y=some v):Yl P n B w0 (.pick c x y) ty L R v:=
 aYt (b:=false) (v:=undef) hc (λh=>by cases h) (λ_=>a)
theorem sO {t e:TypeId} {A:AF} {m c:Nat} (d:P.underlying t=some (.slice e)) (g:ev L x=some (.slice A m c)):Yl P n B w0 (.call {callee:= .builtin .len,args:= #[x],argTypes:= #[t]}) ty L R (.int .i64 (m:Int)):=by
 intro a w o b _ hs _;simp[execOp,b,resolve,invoke,builtin,Builtin.len_,pu d,hs.ev g,goInt]
theorem pQ {ts:Array TypeId} (d:ev L x=some (.int k p)) (e:ev L y=some (.int k q)):Yl P n B w0 (.call {callee:= .builtin .min,args:= #[x,y],argTypes:=ts}) ty L R (.int k (min p q)):=by
 intro a w o b _ hs _;have:(if q<p then q else p)=min p q:=G
 simp[execOp,b,resolve,invoke,builtin,Builtin.min_,Builtin.min2,hs.ev d,hs.ev e,this]
theorem aYw {ts:Array TypeId} (d:ev L x=some (.int k p)) (e:ev L y=some (.int k q)):Yl P n B w0 (.call {callee:= .builtin .max,args:= #[x,y],argTypes:=ts}) ty L R (.int k (max p q)):=by
 intro a w o b _ hs _;have:(if p<q then q else p)=max p q:=G
 simp[execOp,b,resolve,invoke,builtin,Builtin.max_,Builtin.max2,hs.ev d,hs.ev e,this]
theorem pU {t u:TypeId} (d:ev L x=some (.int k p)) (e:ev L y=some (.int k q)):Yl P n B w0 (.binOp .eql t x y u) ty L R (.bool (decide (p=q))):=by
 intro a w o b _ hs _;have:(p==q)=decide (p=q):=by by_cases h:p=q<;>simp[h]
 simp[execOp,b,binOp,eqGuard,hs.ev d,hs.ev e,Op.intCmp,this]
theorem gD {t u:TypeId} (d:ev L x=some (.int k p)) (e:ev L y=some (.int k q)):Yl P n B w0 (.binOp .neq t x y u) ty L R (.bool (decide (p≠q))):=by
 intro a w o b _ hs _;have:(p !=q)=decide (p≠q):=by by_cases h:p=q<;>simp[h]
 simp[execOp,b,binOp,eqGuard,hs.ev d,hs.ev e,Op.intCmp,this]
theorem fD {t u:TypeId} (d:ev L x=some (.int k p)) (e:ev L y=some (.int k q)):Yl P n B w0 (.binOp .lss t x y u) ty L R (.bool (decide (p<q))):=by
 intro a w o b _ hs _;simp[execOp,b,binOp,eqGuard,hs.ev d,hs.ev e,Op.intCmp]
theorem PC {t u:TypeId} (d:ev L x=some (.int k p)) (e:ev L y=some (.int k q)):Yl P n B w0 (.binOp .leq t x y u) ty L R (.bool (decide (p<=q))):=by
 intro a w o b _ hs _;simp[execOp,b,binOp,eqGuard,hs.ev d,hs.ev e,Op.intCmp]
theorem iL {t u:TypeId} (d:ev L x=some (.int k p)) (e:ev L y=some (.int k q)):Yl P n B w0 (.binOp .gtr t x y u) ty L R (.bool (decide (q<p))):=by
 intro a w o b _ hs _;simp[execOp,b,binOp,eqGuard,hs.ev d,hs.ev e,Op.intCmp]
theorem pG {t u:TypeId} (d:ev L x=some (.int k p)) (e:ev L y=some (.int k q)):Yl P n B w0 (.binOp .geq t x y u) ty L R (.bool (decide (q<=p))):=by
 intro a w o b _ hs _;simp[execOp,b,binOp,eqGuard,hs.ev d,hs.ev e,Op.intCmp]
theorem aZd {t u:TypeId} (d:ev L x=some (.int k p)) (e:ev L y=some (.int k q)):Yl P n B w0 (.binOp .add t x y u) ty L R (.int k (k.wrap (p+q))):=by
 intro a w o b _ hs _;simp[execOp,b,binOp,eqGuard,hs.ev d,hs.ev e,Op.intArith]
theorem bOj {t u:TypeId} (d:ev L x=some (.int k p)) (e:ev L y=some (.int k q)):Yl P n B w0 (.binOp .sub t x y u) ty L R (.int k (k.wrap (p-q))):=by
 intro a w o b _ hs _;simp[execOp,b,binOp,eqGuard,hs.ev d,hs.ev e,Op.intArith]
theorem bOm {t u:TypeId} (d:ev L x=some (.int k p)) (e:ev L y=some (.int k q)):Yl P n B w0 (.binOp .mul t x y u) ty L R (.int k (k.wrap (p*q))):=by
 intro a w o b _ hs _;simp[execOp,b,binOp,eqGuard,hs.ev d,hs.ev e,Op.intArith]
theorem CZ (h: -9223372036854775808<=p/\p<=9223372036854775807):IntKind.i64.wrap p=p:=by rw[Co];omega
theorem dJ {t u:TypeId} (a:ev L x=some (.int .i64 p)) (b:ev L y=some (.int .i64 q)) (h: -9223372036854775808<=p+q/\p+q<=9223372036854775807:=by omega):Yl P n B w0 (.binOp .add t x y u) ty L R (.int .i64 (p+q)):=by
 have:=aZd (P:=P) (n:=n) (B:=B) (w0:=w0) (R:=R) (ty:=ty) (t:=t) (u:=u) a b;rwa[CZ h] at this
theorem oH {t u:TypeId} (a:ev L x=some (.int .i64 p)) (b:ev L y=some (.int .i64 q)) (h: -9223372036854775808<=p-q/\p-q<=9223372036854775807:=by omega):Yl P n B w0 (.binOp .sub t x y u) ty L R (.int .i64 (p-q)):=by
 have:=bOj (P:=P) (n:=n) (B:=B) (w0:=w0) (R:=R) (ty:=ty) (t:=t) (u:=u) a b;rwa[CZ h] at this
theorem jG {t u:TypeId} (a:ev L x=some (.int .i64 p)) (b:ev L y=some (.int .i64 q)) (h: -9223372036854775808<=p*q/\p*q<=9223372036854775807:=by omega):Yl P n B w0 (.binOp .mul t x y u) ty L R (.int .i64 (p*q)):=by
 have:=bOm (P:=P) (n:=n) (B:=B) (w0:=w0) (R:=R) (ty:=ty) (t:=t) (u:=u) a b;rwa[CZ h] at this
theorem uF {t u:TypeId} (e:ev L x=some (.int k p)) (g:ev L y=some (.int k q)) (b:0<=p:=by omega) (h:0<q:=by omega):Yl P n B w0 (.binOp .rem t x y u) ty L R (.int k (p%q)):=by
 intro a w o d _ hs _;have h1: ¬q=0:=G
 simp[execOp,d,binOp,eqGuard,hs.ev e,hs.ev g,Op.intDiv,h1,Int.tmod_eq_emod_of_nonneg b]
theorem bOk {t u:TypeId} (e:ev L x=some (.int k p)) (g:ev L y=some (.int k q)) (b:0<=p) (h:0<q):Yl P n B w0 (.binOp .quo t x y u) ty L R (.int k (k.wrap (p/q))):=by
 intro a w o d _ hs _;have h1: ¬q=0:=G
 simp[execOp,d,binOp,eqGuard,hs.ev e,hs.ev g,Op.intDiv,h1,Int.tdiv_eq_ediv_of_nonneg b]
theorem zP {t u:TypeId} (b:ev L x=some (.int .i64 p)) (d:ev L y=some (.int .i64 q)) (a:0<=p) (h:0<q) (g:p<=9223372036854775807):Yl P n B w0 (.binOp .quo t x y u) ty L R (.int .i64 (p/q)):=by
 have:=bOk (P:=P) (n:=n) (B:=B) (w0:=w0) (R:=R) (ty:=ty) (t:=t) (u:=u) b d a h;have h1:p/q<=p:=Cm q a;have e:0<=p/q:=Aa a G;rwa[CZ G] at this
theorem aYu {t:TypeId} (e:ev L x=some (.bool b)):Yl P n B w0 (.unOp .not t x) ty L R (.bool !b):=by
 intro a w o d _ hs _;simp[execOp,d,hs.ev e,Op.unary]
theorem pO {t:TypeId} {p:Prop} [Decidable p] (a:ev L x=some (.bool (decide p))):Yl P n B w0 (.unOp .not t x) ty L R (.bool (decide (¬p))):=by
 have:=aYu (P:=P) (n:=n) (B:=B) (w0:=w0) (R:=R) (ty:=ty) (t:=t) a;rwa[show(!decide p)=decide (¬p) by simp] at this
theorem pV {s d:TypeId} {h:TypeDesc} (ge:P.underlying s=some h) (b:P.underlying d=some (.int k)) (g:ev L x=some (.int j p)):Yl P n B w0 (.convert s d x) ty L R (.int k (k.wrap p)):=by
 intro a w o e _ hs _;simp[execOp,e,convert,pu ge,pu b,hs.ev g,Conv.intToInt]
theorem gV {s d:TypeId} {e:TypeDesc} (ge:P.underlying s=some e) (a:P.underlying d=some (.int .i64)) (b:ev L x=some (.int j p)) (h: -9223372036854775808<=p/\p<=9223372036854775807:=by omega):Yl P n B w0 (.convert s d x) ty L R (.int .i64 p):=by
 have:=pV (P:=P) (n:=n) (B:=B) (w0:=w0) (R:=R) (ty:=ty) ge a b;rwa[CZ h] at this
end
end
end Go.Eng
namespace Go.Eng
open Go Go.RowKit
def pat (A:AF) (j:Nat):AF:=A.map (·.add j)
theorem add_add (a:Addr) (i j:Nat):(a.add i).add j=a.add (i+j):=by
 unfold Addr.add;by_cases h1:i=0<;>by_cases b:j=0<;>simp[h1,b,ow]
theorem JQ (A:AF):pat A 0=A:=by cases A<;>simp[pat,Addr.add]
def rd (l:AH) (i:Int):Int:=l.getD i.toNat 0
def ints (k:IntKind) (l:AH):AG:=l.map (Value.int k)
theorem dB (k:IntKind) (l:AH):(ints k l).length=l.length:=by simp[ints]
theorem ints_at {k:IntKind} {l:AH} {i:Int} (a:0<=i) (h:i<l.length):(ints k l)[i.toNat]? =some (.int k (rd l i)):=by
 have hl:i.toNat<l.length:=G
 simp[ints,rd,af,au hl]
def LP:TypeDesc->Bool
 | .struct _=>true
 | .array _ _=>true
 |_=>false
section
variable {P:Program} {n:Nd} {B:Nat} {w0:World} {L:Env} {R:List Row} {ty:TypeId}
section
variable {w:World} {A p:AF} {m c sz j st l h:Nat} {xs vs:AG} {v:Value} {x ix y z:Operand} {k k1 k2:IntKind} {i:Int} {a0:Addr} {f:FuncId} {Nk:List Operand} {Post:Value->List Row->Prop}
theorem ZL {t:TypeId} {d:TypeDesc} (hu:P.underlying t=some d) (w:World):(isAgg t).run P w= .ok (LP d) w:=by
 simp only[isAgg,jq,pu hu,jw];cases d<;>rfl
theorem Rd.cell (h:Rd w A m c sz xs) (b:xs[j]? =some v): ∃a,pat A j=some a/\w.cell? a=some v:=by
 obtain⟨a,rfl,hc⟩:=h.at_ j v b;exact⟨_,rfl,hc⟩
theorem pR {t e:TypeId} (p:P.underlying t=some (.slice e)) (hi:(P.info? e).map (·.size)=some sz) (q:ev L x=some (.slice A m c)) (r:ev L ix=some (.int k i))
  (l:RdC B w0 R A m c sz xs) (d:Nat.blt 0 sz=true) (h:0<=i:=by omega) (h1:i<m:=by omega):Yl P n B w0 (.indexAddr t x ix) ty L R (.pointer (pat A (i.toNat*sz))):=by
 intro a w o j _ hs hp;have io:=l w hp;obtain⟨i0,g,b⟩:=ii.1 hi
 have ci:i.toNat*sz<xs.length:=by
  rw[io.len];exact Nat.mul_lt_mul_of_pos_right G (ah d)
 obtain⟨u,rfl,_⟩:=io.at_ (i.toNat*sz) xs[i.toNat*sz] (by simp[ci]);simp[execOp,j,Instr.indexAt,hs.ev q,hs.ev r,asIntOf,pu p,h,h1,sizeOf,typeInfo,g,b,pat]
theorem aC {t e:TypeId} (d:P.underlying t=some (.slice e)) (hi:(P.info? e).map (·.size)=some 1) (g:ev L x=some (.slice A m c)) (h:ev L ix=some (.int k i))
  (b:RdC B w0 R A m c 1 xs) (a:0<=i:=by omega) (h1:i<m:=by omega):Yl P n B w0 (.indexAddr t x ix) ty L R (.pointer (pat A i.toNat)):=by
 have:=pR (n:=n) (ty:=ty) d hi g h b rfl a h1;rwa[qy] at this
theorem FY {t e:TypeId} {d N j0:Nat} (r:P.underlying t=some (.array N e)) (hi:(P.info? e).map (·.size)=some sz) (u:ev L x=some (.pointer p)) (g:p=pat A j0) (v:ev L ix=some (.int k i))
  (q:RdC B w0 R A m c d xs) (ci:j0<xs.length) (j:0<=i) (h1:i<N):Yl P n B w0 (.indexAddr t x ix) ty L R (.pointer (pat A (j0+i.toNat*sz))):=by
 intro a w o l _ hs hp;have io:=q w hp;obtain⟨i0,h,b⟩:=ii.1 hi;obtain⟨y,rfl,_⟩:=io.at_ j0 xs[j0] (by simp[ci]);subst g;simp[execOp,l,Instr.indexAt,Instr.sureAddr,hs.ev u,hs.ev v,asIntOf,pu r,j,h1,sizeOf,typeInfo,h,b,pat,add_add]
theorem kS {t:TypeId} {d:TypeDesc} (hu:P.underlying t=some d) (e:LP d=false) (l:ev L x=some (.pointer p)) (hp:p=pat A j) (h:RdC B w0 R A m c sz xs) (i:xs[j]? =some v):
  Yl P n B w0 (.load t x) ty L R v:=by
 intro a w o g _ hs k;obtain⟨q,h1,b⟩:=(h w k).cell i;subst hp;simp[execOp,g,Instr.loadAt,Instr.sureAddr,hs.ev l,h1,loadVar,ZL hu,e,b]
theorem aQ {t:TypeId} {d:TypeDesc} {l:AH} (hu:P.underlying t=some d) (j:LP d=false) (q:ev L x=some (.pointer (pat A i.toNat))) (b:RdC B w0 R A m c 1 (ints k l)) (h:0<=i:=by omega) (h1:i<m:=by omega):
  Yl P n B w0 (.load t x) ty L R (.int k (rd l i)):=by
 intro a w o p g hs e;have hl:=(b w e).len;rw[dB] at hl;exact kS hu j q rfl b (ints_at h G) a w o p g hs e
theorem aYz {t:TypeId} {d:TypeDesc} (hu:P.underlying t=some d) (l:LP d=true) (k:(P.info? t).map (·.size)=some st) (C:ev L x=some (.pointer p)) (hp:p=pat A j) (u:RdC B w0 R A m c sz xs) (J:j+st<=xs.length) (F:0<st):
  Yl P n B w0 (.load t x) ty L R (.agg ((xs.drop j).take st).toArray):=by
 intro a w o r _ hs y;have io:=u w y;obtain⟨i0,i,b⟩:=ii.1 k;obtain⟨g,rfl,_⟩:=io.at_ j xs[j] cD;subst hp
 have hc:(loadCells (g.add j) st).run P w= .ok ((xs.drop j).take st).toArray w:=by
  have:=run_loadCells_list (P:=P) w (g.add j) ((xs.drop j).take st) (λq v e=>by
   have h:xs[j+q]? =some v:=by
    rw[qi] at e;split at e
    ·simpa using e
    cases e
   obtain⟨H,D,hc⟩:=io.at_ _ _ h;obtain rfl:=fo D
   rw[add_add];exact hc)
  have hl:((xs.drop j).take st).length=st:=cJ
  rwa[hl] at this
 simp[execOp,r,Instr.loadAt,Instr.sureAddr,hs.ev C,pat,loadVar,ZL hu,l,sizeOf,typeInfo,i,b,hc]
theorem aFa {t:TypeId} {d:Array Field} {f:Field} {k:Nat} (hu:P.underlying t=some (.struct d)) (i:d[k]? =some f) (h:(P.info? f.type).map (·.size)=some st) (e:Nat.blt 0 st=true) (l:ev L x=some (.pointer (some a0))):
  Yl P n B w0 (.fieldAddr t x k) ty L R (.pointer (some (a0.add f.offset))):=by
 intro a w o j _ hs _;obtain⟨i0,g,b⟩:=ii.1 h;have: ¬st=0:=by have:=ah e;omega
 simp[execOp,j,Instr.fieldAt,Instr.sureAddr,hs.ev l,pu hu,i,fieldPlace,sizeOf,typeInfo,g,b,this]
theorem jS (d:ev L x=some (.pointer (some a0))):Yl P n B w0 (.nilCheck x) ty L R (.pointer (some a0)):=by
 intro a w o b _ hs _;simp[execOp,b,hs.ev d]
theorem YJ {i:Nat} {vs:Array Value} (e:ev L x=some (.tuple vs)) (d:vs[i]? =some v):Yl P n B w0 (.extract x i) ty L R v:=by
 intro a w o b _ hs _;simp[execOp,b,hs.ev e,Instr.extract,d]
def evs (L:Env):List Operand->Option (AG)
 |[]=>some []
 |x::r=>match ev L x,evs L r with
  |some v,some vs=>some (v::vs)
  |_,_=>none
theorem Sat.evs {a:Act} (hs:Sat n L a): ∀ {xs:List Operand} {vs:AG},evs L xs=some vs->xs.map a.eval=vs
 |[],vs,h=>by simpa [Eng.evs] using h
 | x::r,vs,h=>by
  unfold Eng.evs at h;split at h
  ·rename_i v us h1 b;obtain rfl:=fo h;rw[jg,hs.ev h1,hs.evs b]
  cases h
theorem oI {fn:Fn} {ps cs:List Operand} {us:AG} (h1:evs L ps=some vs) (e:evs L cs=some us):Yl P n B w0 (.makeFunc fn ps.toArray cs.toArray) ty L R (.func fn vs.toArray us.toArray):=by
 intro a w o g _ hs _;have b:=hs.evs h1;have d:=hs.evs e;simp[execOp,g,Instr.makeFunc,b,d]
def lL (A:AF) (l c sz:Nat):AF:=if c=l then A else A.map (·.add (l*sz))
theorem bSa (b:Rd w A m c sz xs) (h1:l<=h) (g:h<=m):Rd w (lL A l c sz) (h-l) (c-l) sz ((xs.drop (l*sz)).take ((h-l)*sz)):=by
 have hc:=b.le;have o:h*sz=l*sz+(h-l)*sz:=by rw[<-yj];congr 1;omega
 have p:h*sz<=m*sz:=vo _ g;refine⟨?_,by have:=b.max;omega,G,λj v d=> ?_⟩
 ·rw[ax,az,b.len];omega
 rw [qi] at d;split at d
 ·rename_i i;have e:xs[l*sz+j]? =some v:=by simpa using d
  obtain⟨a,rfl,k⟩:=b.at_ _ _ e;unfold lL;by_cases mt:c=l
  ·have:h=l:=G
   subst this;simp at i
  rw [bq mt];exact⟨_,rfl,by rw[add_add];exact k⟩
 cases d
theorem RdC.cut (b:RdC B w0 R A m c sz xs) (h1:l<=h) (a:h<=m):RdC B w0 R (lL A l c sz) (h-l) (c-l) sz ((xs.drop (l*sz)).take ((h-l)*sz)):=
 λw d=>bSa (b w d) h1 a
theorem RdC.cutI {xs:AH} (b:RdC B w0 R A m c 1 (ints k xs)) (h1:l<=h) (a:h<=m):RdC B w0 R (lL A l c 1) (h-l) (c-l) 1 (ints k ((xs.drop l).take (h-l))):=by
 have:=b.cut h1 a;simpa [ints,Bt,Fy] using this
theorem RdC.fromI {xs:AH} (a:RdC B w0 R A m c 1 (ints k xs)) (h1:l<=m):RdC B w0 R (lL A l c 1) (m-l) (c-l) 1 (ints k (xs.drop l)):=by
 intro w b;have:=a.cutI h1 (dn m) w b;have hl:=(a w b).len;rw[dB] at hl;rwa[bg (by rw[az];omega)] at this
theorem RdC.to (d:RdC B w0 R A m c sz xs) (b:h<=m):RdC B w0 R A h c sz (xs.take (h*sz)):=by
 intro w e;have io:=d w e;have hl:=io.len;have g:h*sz<=m*sz:=vo _ b;refine⟨by rw[ax];omega,by have:=io.max;omega,by have:=io.le;omega,λj v a=> ?_⟩;refine io.at_ j v ?_;rw[qi] at a;split at a
 ·exact a
 cases a
theorem RdC.toI {xs:AH} (b:RdC B w0 R A m c 1 (ints k xs)) (a:h<=m):RdC B w0 R A h c 1 (ints k (xs.take h)):=by
 have:=b.to a;simpa [ints,Bt] using this
theorem aPt {t e:TypeId} {l h:Int} (d:P.underlying t=some (.slice e)) (hi:(P.info? e).map (·.size)=some sz) (r:ev L x=some (.slice A m c)) (u:ev L y=some (.int k1 l)) (v:ev L z=some (.int k2 h)) (q:RdC B w0 R A m c sz xs) (k:0<=l) (h1:l<=h) (C:h<=m):
  Yl P n B w0 (.slice t x (some y) (some z) none) ty L R (.slice (lL A l.toNat c sz) (h.toNat-l.toNat) (c-l.toNat)):=by
 intro a w o p _ hs hp;have D:=(q w hp).le;obtain⟨i0,j,b⟩:=ii.1 hi;have g:P.elem t=e:=by simp[Program.elem,d]
 have i:P.underlying t=some (.slice (P.elem t)):=by rw[g];exact d
 simp only[execOp,p,lh,Bp,hs.ev r,hs.ev u,hs.ev v,jq,Ak w t _ _ _ _ i,run_slice_lh w t A m c i k1 k2 l h k h1 G,g];simp[sizeOf,typeInfo,j,b,sliced,lL]
theorem dE {t e:TypeId} {l:Int} (d:P.underlying t=some (.slice e)) (hi:(P.info? e).map (·.size)=some sz) (p:ev L x=some (.slice A m c)) (q:ev L y=some (.int k1 l)) (j:0<=l:=by omega) (h1:l<=m:=by omega):
  Yl P n B w0 (.slice t x (some y) none none) ty L R (.slice (lL A l.toNat c sz) (m-l.toNat) (c-l.toNat)):=by
 intro a w o k _ hs _;obtain⟨i0,i,b⟩:=ii.1 hi;have g:P.elem t=e:=by simp[Program.elem,d]
 have h:P.underlying t=some (.slice (P.elem t)):=by rw[g];exact d
 simp only[execOp,k,lh,Bp,hs.ev p,hs.ev q,jq,Ak w t _ _ _ _ h,run_slice_l w t A m c h k1 l j h1,g];simp[sizeOf,typeInfo,i,b,sliced,lL]
theorem dV {t e:TypeId} {h:Int} (d:P.underlying t=some (.slice e)) (hi:(P.info? e).map (·.size)=some sz) (q:ev L x=some (.slice A m c)) (r:ev L z=some (.int k2 h)) (p:RdC B w0 R A m c sz xs) (k:0<=h:=by omega) (u:h<=m:=by omega):
  Yl P n B w0 (.slice t x none (some z) none) ty L R (.slice A h.toNat c):=by
 intro a w o l _ hs hp;have v:=(p w hp).le;obtain⟨i0,j,b⟩:=ii.1 hi;have g:P.elem t=e:=by simp[Program.elem,d]
 have i:P.underlying t=some (.slice (P.elem t)):=by rw[g];exact d
 simp only[execOp,l,lh,Bp,hs.ev q,hs.ev r,jq,Ak w t _ _ _ _ i,run_slice_h w t A m c i k2 h k G,g]
 have:(if c=0 then A else Option.map (λx=>x.add 0) A)=A:=by
  split
  ·rfl
  exact JQ A
 simp[sizeOf,typeInfo,j,b,sliced,this]
def Enters (P:Program) (f:FuncId):Prop:= ∀args w,(callFunc f args).run P w= .ok (.enter f args) w
theorem enters {fn:Func} (b:P.funcs[f]? =some fn) (h1:(fn.name== "runtime.NumGoroutine")=false) (a:fn.body.isNone=false):Enters P f:=by
 intro args w;unfold callFunc;simp only[program,jq,Sem.run,jw,b];simp[h1,a]
theorem HV {b:Operand} {ts:Array TypeId} {ps cs:Array Value} (i:Enters P f) (j:ev L b=some (.func (.func f) ps cs)) (h:evs L Nk=some vs) (hc:Ct P f (ps++vs.toArray++cs) B w0 R Post):
  Ac P n B w0 (.call {callee:= .value b,args:=Nk.toArray,argTypes:=ts}) ty L R Post:=by
 intro a w o K Q k _ hs hp hk;have g:=hs.evs h;unfold Oper.wp;simp only[execOp,k,resolve,hs.ev j,Deferred.ofValue,invoke,jq,qg,jw,uu,g,i (ps++vs.toArray++cs) w,Oper.upon];refine(hc w hp).mono ?_;rintro e w' ⟨v,R',rfl,d,l⟩;exact hk v w' R' d l
theorem aH {f:FuncId} {ts:Array TypeId} (b:Enters P f) (a:evs L Nk=some vs) (hc:Ct P f vs.toArray B w0 R Post):
  Ac P n B w0 (.call {callee:= .value (.func f),args:=Nk.toArray,argTypes:=ts}) ty L R Post:=
 HV (ps:= #[]) (cs:= #[]) b rfl a (by simpa using hc)
end
end
end Go.Eng
namespace Go.Eng
open Go Go.RowKit
section
variable {P:Program} {n:Nd} {B:Nat} {w0:World} {L:Env} {R:List Row} {ty:TypeId}
section
variable {w:World} {r:Row} {x y:Operand} {z v:Value} {bytes m sz g j:Nat} {p:AF}
theorem Row.lies_nil (B:Nat) (w:World) (e sz:Nat):(Row.mk e sz none 0 0 [] false).lies B w:=World.ownsRow_nil w B e sz
theorem Hp.nil (h:Hp B w0 w R) (e sz:Nat):Hp B w0 w (⟨e,sz,none,0,0,[],false⟩::R):=
 ⟨h.below,h.base,λr b=>by
  rcases il.1 b with rfl|b
  ·exact Row.lies_nil B w e sz
  exact h.own r b,jb.2 ⟨λr _ a g d _=>(by cases d),h.apart⟩,h.late⟩
theorem Hp.new (h:Hp B w0 w R) (cs:Array Value) (e m sz:Nat) (a:m<=maxLen) (hs:cs.size=m*sz):Hp B w0 (w.alloc (.cells cs e)) (⟨e,sz,some ⟨w.heap.size,0,none⟩,m,m,cs.toList,false⟩::R):=by
 refine h.join (Rn:=[_]) ⟨(Fj _ _).alloc (dn _) _,cD,λr b=> ?_,ql _ _,Late.alloc _ _⟩;obtain rfl:=gz.1 b;exact World.ownsRow_lit w cs m (dn _) a hs
theorem Hp.upd {w':World} (h:Hp B w0 w R) {i:Nat} {r':Row} (hi:R[i]? =some r) {row:Option Nat} (y:w.grownBy w' row) (P:w.drawn<=w'.drawn) (D: ∀k,row=some k-> ∃a,r.A=some a/\a.block=k) (hl:r'.lies B w')
  (hb: ∀b,r'.A=some b->(∃a,r.A=some a/\a.block=b.block)\/w.heap.size<=b.block):Hp B w0 w' (R.set i r'):=by
 have M:r∈R:=gy hi;have v:i<R.length:=(gp.1 hi).1
 have keep: ∀(q:Row),q.lies B w->(∀a,q.A=some a-> ∀b,r.A=some b->a.block≠b.block)->q.lies B w':=by
  intro q l O;refine Row.lies_of_block l λa g=>y.block a.block (Row.lies_lt l a g).2 λe=> ?_;obtain⟨b,u,hk⟩:=D _ e.symm;exact O a g b u hk.symm
 refine⟨h.below.grown y h.base (λk hk=> ?_),pq h.base y.size,λq l=> ?_,?_,h.late.trans ⟨P,λk o hk hc=> ?_⟩⟩
 ·obtain ⟨a,g,rfl⟩:=D k hk;exact(Row.lies_lt (h.own r M) a g).1
 ·obtain ⟨j,d⟩:=List.mem_iff_getElem?.1 l;rw[xx] at d;by_cases x:i=j
  ·rw [cz x] at d;rw[cz v] at d;obtain rfl:=fo d;exact hl
  rw [bq x] at d;refine keep q (h.own q (gy d)) ?_;intro a g b u;have H:=(gp.1 d).1;have K:=(gp.1 d).2;have rx:=(gp.1 hi).2;rcases Du x with ci|ci
  ·have:=dz.1 h.apart i j v H ci;rw[K,rx] at this;exact Ik (this b a u g)
  have:=dz.1 h.apart j i H v ci;rw[K,rx] at this;exact this a b g u
 ·have J: ∀j (d:j<R.length),i≠j->r'.apart R[j]:=by
   intro j d x b C u m;have Q:=Row.lies_lt (h.own R[j] (mg d)) C m;rcases hb b u with⟨a,g,e⟩|S
   ·have rx:=(gp.1 hi).2;rw[<-e];rcases Du x with ci|ci
    ·have:=dz.1 h.apart i j v d ci;rw[rx] at this;exact this a C g m
    have:=dz.1 h.apart j i d v ci;rw[rx] at this;exact Ik (this C a m g)
   omega
  refine dz.2 λp q hp l F=> ?_;simp only[Gs] at hp l;by_cases h1:i=p
  ·subst h1;rw[List.getElem_set_self,Dc G];exact J q l G
  by_cases L:i=q
  ·subst L;rw[List.getElem_set_self,Dc h1];exact Row.apart_symm (J p hp G)
  rw [Dc h1,Dc L];exact dz.1 h.apart p q hp l F
 rw [y.block k (gu.1 hk).1 λe=> ?_]
 ·exact hk
 obtain ⟨a,g,rfl⟩:=D k e.symm;obtain⟨cs,e',T,N⟩:=Row.lies_cells (h.own r M) g;rw[N] at hk;cases hk;cases hc
theorem World.grownBy_refl' (w:World) (row:Option Nat):w.grownBy w row:=⟨rfl,rfl,rfl,dn _,λ_ _ _=>rfl⟩
theorem Row.lies_w (h:r.lies B w) (a:r.ro=false):w.ownsRow B r.e r.sz (.slice r.A r.n r.c) r.n r.xs:=by
 unfold Row.lies at h;simpa only[a] using h
theorem bUb {t e:TypeId} (q:P.underlying t=some (.slice e)) (l:(P.info? e).map (λi=>(i.zero,i.size,i.bytes))=some (some z,1,bytes)) (A:z.cells= #[z])
  (r:ev L x=some (.int .i64 (m:Int))) (u:ev L y=some (.int .i64 (m:Int))) (F:m*bytes<=281474976710656) (D:m<=9223372036854775807):
  Ac P n B w0 (.makeSlice t x y) ty L R (λv R'=> ∃g,v= .slice (some ⟨g,0,none⟩) m m/\R'=⟨e,1,some ⟨g,0,none⟩,m,m,List.replicate m z,false⟩::R):=by
 intro a w o K Q p _ hs hp hk;obtain⟨i0,hi,j⟩:=ii.1 l;simp only[uk] at j;obtain⟨n8,C,k⟩:=j
 have hb:(i0.bytes:Int)*(m:Int)<=281474976710656:=by
  have h:((m*bytes:Nat):Int)<=281474976710656:=G
  rw[k,xc];rwa[Ad] at h
 have d:=run_make (P:=P) w t e i0 z q hi n8 .i64 .i64 m m G (ni _) hb G;simp only[bu,C,qy,A] at d;unfold Oper.wp;simp only[execOp,p,hs.ev r,hs.ev u,jq,d,jw,qg,Oper.upon];have b:=hp.new (madeCells #[z] m) e m 1 (by unfold maxLen;omega) (by simp[size_madeCells]);rw[toList_madeCells_one] at b;exact hk _ _ _ b ⟨_,rfl,rfl⟩
theorem aTi {t e:TypeId} {m:Int} (j:P.underlying t=some (.slice e)) (a:(P.info? e).map (λi=>(i.zero,i.size,i.bytes))=some (some z,1,bytes)) (o:z.cells= #[z])
  (k:ev L x=some (.int .i64 m)) (l:ev L y=some (.int .i64 m)) (b:0<=m) (d:m*bytes<=281474976710656) (p:m<=9223372036854775807):
  Ac P n B w0 (.makeSlice t x y) ty L R (λv R'=> ∃g,v= .slice (some ⟨g,0,none⟩) m.toNat m.toNat/\R'=⟨e,1,some ⟨g,0,none⟩,m.toNat,m.toNat,List.replicate m.toNat z,false⟩::R):=by
 obtain⟨q,rfl⟩:=Int.eq_ofNat_of_zero_le b;have h:((q*bytes:Nat):Int)<=281474976710656:=by rw[Ad];exact d
 have:=bUb (P:=P) (n:=n) (B:=B) (w0:=w0) (L:=L) (R:=R) (ty:=ty) (m:=q) j a o k l G G;simpa only[bu] using this
theorem eH {e:TypeId} (b:(P.info? e).map (·.zero)=some (some z)) (j:z.cells.size=sz):Ac P n B w0 (.alloc e) ty L R (λv R'=> ∃g,v= .pointer (some ⟨g,0,none⟩)/\R'=⟨e,sz,some ⟨g,0,none⟩,1,1,z.cells.toList,false⟩::R):=by
 intro a w o K Q h _ hs hp hk;obtain⟨i0,hi,n8⟩:=ii.1 b;have d:=hp.new z.cells e 1 sz (by unfold maxLen;omega) G;unfold Oper.wp
 have i:(Instr.alloc e true (.tuple #[])).run P w= .ok (.pointer (some ⟨w.heap.size,0,none⟩)) (w.alloc (.cells z.cells e)):=by
  simp[Instr.alloc,zeroValue,typeInfo,hi,n8,newVar,newRow]
 simp only[execOp,h,jq,i,jw,qg,Oper.upon];exact hk _ _ _ d ⟨_,rfl,rfl⟩
theorem dC {e:TypeId} (i:ev L x=some v) (j:v.cells.size=sz):Ac P n B w0 (.box e x) ty L R (λu R'=> ∃g,u= .pointer (some ⟨g,0,none⟩)/\R'=⟨e,sz,some ⟨g,0,none⟩,1,1,v.cells.toList,false⟩::R):=by
 intro a w o K Q d _ hs hp hk;have b:=hp.new v.cells e 1 sz (by unfold maxLen;omega) G;unfold Oper.wp
 have h:(Instr.box e v).run P w= .ok (.pointer (some ⟨w.heap.size,0,none⟩)) (w.alloc (.cells v.cells e)):=by
  simp[Instr.box,newVar,newRow]
 simp only[execOp,d,hs.ev i,jq,h,jw,qg,Oper.upon];exact hk _ _ _ b ⟨_,rfl,rfl⟩
def evp (L:Env):List (Nat × Operand)->Option (List (Nat × Value))
 |[]=>some []
 |(i,x)::r=>match ev L x,evp L r with
  |some v,some vs=>some ((i,v)::vs)
  |_,_=>none
theorem Sat.evp {a:Act} (hs:Sat n L a): ∀ {xs:List (Nat × Operand)} {vs:List (Nat × Value)},evp L xs=some vs->xs.map (λp=>(p.1,a.eval p.2))=vs
 |[],vs,h=>by simpa [Eng.evp] using h
 | (i,x)::r,vs,h=>by
  unfold Eng.evp at h;split at h
  ·rename_i v us h1 b;obtain rfl:=fo h;rw[jg,hs.ev h1,hs.evp b]
  cases h
theorem tH {t e:TypeId} {len:Nat} {ps:List (Nat × Operand)} {vs:List (Nat × Value)} {cells:Array Value} (l:P.underlying t=some (.slice e)) (r:(P.info? e).map (λi=>(i.zero,i.size))=some (some z,sz)) (A:evp L ps=some vs)
  (C:Nat.ble (len*sz) 16777216=true) (hl:Nat.ble len 16777216=true)
  (b:Instr.fill (λi=>some (i*sz,sz)) ((Array.range (len*sz)).map ((bif Nat.beq (len*sz) 0 then #[] else z.cells)[· %(bif Nat.beq (len*sz) 0 then #[] else z.cells).size]!)) vs=some cells) (hc:cells.size=len*sz):
  Ac P n B w0 (.buildSlice t len ps.toArray) ty L R (λv R'=> ∃g,v= .slice (some ⟨g,0,none⟩) len len/\R'=⟨e,sz,some ⟨g,0,none⟩,len,len,cells.toList,false⟩::R):=by
 intro a w o K Q x _ hs hp hk;obtain⟨i0,hi,q⟩:=ii.1 r;simp only[uk] at q;obtain⟨n8,m⟩:=q;have D:=ah C;have u:=ah hl;have j:=hs.evp A
 have y:(Instr.buildSlice t len (ps.toArray.map λp=>(p.1,a.eval p.2))).run P w= .ok (.slice (some ⟨w.heap.size,0,none⟩) len len) (w.alloc (.cells cells e)):=by
  have h: ¬(16777216<len*sz):=G
  by_cases d:len*sz=0
  ·have k: ∀f:Nat->Value,Array.map f (Array.range 0)= #[]:=λf=>by simp[Array.range_zero']
   rw[d,k] at b;simp[Instr.buildSlice,pu l,sizeOf,typeInfo,hi,m,d,j,newRow,b,k]
  have hb:Nat.beq (len*sz) 0=false:=by
   cases hb:Nat.beq (len*sz) 0 with
   |true=>exact absurd (um hb) d
   |false=>rfl
  simp only[hb,cond_false] at b;simp[Instr.buildSlice,pu l,sizeOf,typeInfo,hi,m,d,zeroValue,n8,newRow,j,b,h]
 unfold Oper.wp;simp only[execOp,x,jq,y,jw,qg,Oper.upon];exact hk _ _ _ (hp.new cells e len sz (by unfold maxLen;omega) hc) ⟨_,rfl,rfl⟩
theorem aZy (l vs:AG) (j k:Nat) (h1:j+vs.length<=k) (h:k<=l.length):(l.take j++vs++l.drop (j+vs.length)).take k=(l.take k).take j++vs++(l.take k).drop (j+vs.length):=by
 apply vk;intro i;simp only[qi,List.getElem?_append,aa,ax,ui];have d:min j l.length=j:=G
 have e:min j (min k l.length)=j:=G
 rw[d,e];by_cases hi:i<k
 ·by_cases a:i<j
  ·simp[hi,a,show i<j+vs.length by omega]
  by_cases b:i<j+vs.length
  ·simp[hi,a,b]
  have:j+vs.length+(i-(j+vs.length))=i:=G
  simp[hi,b,this]
 have g: ¬i<j+vs.length:=G
 have:j+vs.length+(i-(j+vs.length))=i:=G
 simp[hi,g,this]
theorem Row.lies_seg (h:r.lies B w) (p:r.ro=false) (d:r.A=some ⟨g,0,none⟩) (j:Nat) (vs:AG) (L:j+vs.length<=r.xs.length) (h1: ∀v∈vs,v.oneCell'=true) {t:TypeId} (m:v.cells.toList=vs) (y:(P.info? t).map (·.size)=some vs.length):
  ∃w',(storeVar t ((⟨g,0,none⟩:Addr).add j) v).run P w= .ok () w'/\w.grownBy w' (some g)/\Row.lies B w' {r with xs:=r.xs.take j++vs++r.xs.drop (j+vs.length)}:=by
 have o:=Row.lies_w h p;rcases o.2 with⟨hn,_⟩|⟨K,cap,cur,hs,hb,i,a,H,F,C⟩
 ·rw[d] at hn;cases hn
 rw [d] at hs;simp only[ko,jl,Br,Az,Al] at hs;obtain⟨rfl,rfl⟩:=hs;have J:r.xs.length=r.n*r.sz:=o.1;have M:r.n*r.sz<=cur.size:=by rw[F];exact vo _ a
 have q:(⟨g,0,none⟩:Addr).add j=⟨g,j,none⟩:=by unfold Addr.add;split<;>simp_all
 have l:=run_storeCells_at P g j r.e vs 0 cur w i cJ h1;simp only[qw] at l;obtain⟨i0,u,b⟩:=ii.1 y;have D:v.cells.size=vs.length:=by rw[<-jy,m]
 refine⟨w.setRow g (cur.toList.take j++vs++cur.toList.drop (j+vs.length)).toArray,?_,⟨rfl,rfl,rfl,cD,λk _ hk=>Jz w g k _ (λe=>hk (by simp[e]))⟩,?_⟩
 ·rw [q];have x: ¬(v.cells.size≠vs.length):=G
  simp only[storeVar,jq,sizeOf,typeInfo,program,Sem.run,jw,u,qg,b,x,xq,m];exact l
 unfold Row.lies;simp only[p];refine⟨?_, .inr ⟨g,r.c,_,by rw[d],hb,Kq w g cur _ r.e _ i,a,H,?_,?_⟩⟩
 ·simp only[aa,ax,az];omega
 ·simp only[qz,aa,ax,az,jy];omega
 simp only;rw[aZy _ _ _ _ G (by rw[jy];omega),C]
theorem LV {t:TypeId} {v:Value} {vs:AG} (i:Nat) (hi:R[i]? =some r) (H:r.ro=false) (b:r.A=some ⟨g,0,none⟩) (l:(P.info? t).map (·.size)=some vs.length) (D:ev L x=some (.pointer p)) (h:p=pat r.A j) (F:ev L y=some v) (C:v.cells.toList=vs) (h1: ∀v∈vs,v.oneCell'=true) (q:j+vs.length<=r.xs.length):
  Ac P n B w0 (.store t x y) ty L R (λ_ R'=>R'=R.set i {r with xs:=r.xs.take j++vs++r.xs.drop (j+vs.length)}):=by
 intro a w o K Q u _ hs hp hk;subst h;obtain⟨w',d,m,hl⟩:=Row.lies_seg (P:=P) (hp.own r (gy hi)) H b j vs q h1 C l;unfold Oper.wp;simp only[execOp,u,Instr.storeAt,hs.ev D,hs.ev F,pat,b,lh,Instr.sureAddr,jq,qg,jw,d,Oper.upon];refine hk undef w' _ ?_ rfl;refine hp.upd hi m (SX _ _ _ _ d) (λk hk=> ?_) hl (λe J=> .inl ⟨e,J,rfl⟩);obtain rfl:=fo hk;exact⟨_,b,rfl⟩
theorem bJz (l:AG) (j:Nat) (v:Value) (h:j<l.length):l.take j++[v]++l.drop (j+1)=l.set j v:=by
 rw[Ef,cz h];simp
theorem aEj {t:TypeId} (i:Nat) (hi:R[i]? =some r) (m:r.ro=false) (d:r.A=some ⟨g,0,none⟩) (b:(P.info? t).map (·.size)=some 1) (k:ev L x=some (.pointer p)) (a:p=pat r.A j) (l:ev L y=some v) (h:v.cells.toList=[v]) (h1:v.oneCell'=true) (e:j<r.xs.length):
  Ac P n B w0 (.store t x y) ty L R (λ_ R'=>R'=R.set i {r with xs:=r.xs.set j v}):=by
 have:=LV (P:=P) (n:=n) (B:=B) (w0:=w0) (ty:=ty) i hi m d (vs:=[v]) b k a l h (by simpa using h1) (by rw[dw];omega);simpa only[dw,bJz _ _ _ e] using this
theorem fO {s:Operand} {t:TypeId} {c2:Nat} {A2:AF} {news:AG} (i:Nat) (hi:R[i]? =some r) (qq:r.ro=false) (F:P.underlying t=some (.slice r.e)) (dv:(P.info? r.e).map (λi=>(i.zero,i.size,i.bytes))=some (some z,r.sz,bytes)) (hz:z.cells.size=r.sz) (T:Nat.blt 0 r.sz=true) (vl:Nat.blt 0 bytes=true)
  (hs:ev L s=some (.slice r.A r.n r.c)) (hx:ev L x=some (.slice A2 m c2)) (io:RdC B w0 R A2 m c2 r.sz news) (h1: ∀u∈news,u.oneCell'=true) (Y:(r.n+m)*bytes<=140737488355328):
  Ac P n B w0 (.call {callee:= .builtin .append,args:= #[s,x],argTypes:= #[t,t]}) ty L R (λv R'=> ∃h c',v= .slice h (r.n+m) c'/\R'=R.set i ⟨r.e,r.sz,h,r.n+m,c',r.xs++news,false⟩):=by
 intro a w o K Q ho _ ge hp hk;obtain⟨i0,D,z8⟩:=ii.1 dv;simp only[uk] at z8;obtain⟨n8,o8,Nf⟩:=z8;have J:=ah T;have C:=ah vl;have hr:=hp.own r (gy hi);have H:=Row.lies_w hr qq;have q:=io w hp;have hlen:r.n+m<=140737488355328:=pq (Nat.le_mul_of_pos_right _ C) Y
 have ke: ∃d w',(Builtin.append_ #[t,t] o.type #[.slice r.A r.n r.c, .slice A2 m c2]).run P w= .ok d w'/\w'.ownsRow B r.e r.sz d (r.n+m) (r.xs++news)/\w.grownBy w' (Value.ownBlock (.slice r.A r.n r.c))/\(d.ownBlock=Value.ownBlock (.slice r.A r.n r.c)\/d.ownBlock=some w.heap.size):=by
  rcases fe m with N|N
  ·subst N;have hn:news=[]:=di (by rw[q.len];omega);subst hn;rcases A2 with _|M
   ·refine ⟨_,w,?_,by simpa using H,World.grownBy_refl' w _, .inl rfl⟩;rcases H.2 with⟨X,hn⟩|⟨g,cap,cur,X,_,_,S,_⟩
    ·rw [X];simp[Builtin.append_,pu F,sizeOf,typeInfo,D,Builtin.lenOf,Builtin.firstCells]
    rw [X];simp[Builtin.append_,pu F,sizeOf,typeInfo,D,Builtin.lenOf,Builtin.firstCells,S,storeCells]
   obtain ⟨d,w',l,p,y,_,b⟩:=run_append_own_at (P:=P) w B t o.type r.e i0 z r.sz bytes F D n8 o8 Nf hz J _ r.n r.xs H M 0 c2 [] cD (λj u hu=>by simp at hu) h1 (by unfold maxLen;omega) Y hp.base;exact⟨d,w',l,p,y,b⟩
  have cj:0<news.length:=by rw[q.len];exact Ch N J
  obtain⟨M,rfl,_⟩:=q.at_ 0 news[0] cD
  obtain⟨d,w',l,p,y,_,b⟩:=run_append_own_at (P:=P) w B t o.type r.e i0 z r.sz bytes F D n8 o8 Nf hz J _ r.n r.xs H M m c2 news q.len (λj u hu=>by
   obtain⟨a',re,hc⟩:=q.at_ j u hu;obtain rfl:=fo re
   exact hc) h1 (by unfold maxLen;omega) Y hp.base
  exact⟨d,w',l,p,y,b⟩
 obtain⟨d,w',l,p,y,b⟩:=ke
 have Oe: ∃h c',d= .slice h (r.n+m) c':=by
  rcases p.2 with⟨rfl,hn⟩|⟨g,cap,cur,rfl,_⟩
  ·exact⟨none,0,by rw[hn]⟩
  exact⟨_,cap,rfl⟩
 obtain⟨h,c',rfl⟩:=Oe;unfold Oper.wp execOp;simp only[ho,resolve,invoke,builtin,jq,qg,jw,uu,jg,ug,ge.ev hs,ge.ev hx,l,Oper.upon];refine hk _ w' _ ?_ ⟨h,c',rfl,rfl⟩;refine hp.upd hi y (SX _ _ _ _ l) (λk hk=> ?_) ?_ (λa' re=> ?_)
 ·cases hA:r.A with
  |none=>rw[hA] at hk;simp[Value.ownBlock] at hk
  |some a1=>rw[hA] at hk;simp only[Value.ownBlock,jl] at hk;exact⟨a1,rfl,hk⟩
 ·exact p
 have O:h=some a':=re;subst O;rcases b with b|b
 ·cases hA:r.A with
  |none=>rw[hA] at b;simp[Value.ownBlock] at b
  |some a1=>rw[hA] at b;simp only[Value.ownBlock,jl] at b;exact .inl ⟨a1,rfl,b.symm⟩
 simp only[Value.ownBlock,jl] at b;exact .inr G
end
end
end Go.Eng
namespace Go.Eng
open Go Go.RowKit
def bU (P:Program) {α:Type} (m:Sem α):Prop:= ∀w w1 v,m.run P w= .ok v w1-> ∀w',m.run P w'= .ok v w'
def nN (P:Program) {α:Type} (m:Sem α):Prop:= ∀w w1 v,m.run P w≠ .ok v w1
section
variable {P:Program} {α β:Type}
theorem nN.free {m:Sem α} (h:nN P m):bU P m:=λw w1 v e=>absurd e (h w w1 v)
theorem bU.pure (a:α):bU P (Pure.pure a:Sem α):=λw w1 v h w'=>by
 simp only[qg,Dn] at h ⊢;exact⟨h.1,trivial⟩
theorem bU.bind {m:Sem α} {f:α->Sem β} (d:bU P m) (b: ∀a,bU P (f a)):bU P (m>>=f):=λw w1 v h w'=>by
 rw[jq] at h ⊢;cases hr:m.run P w with
 |halt x w2=>rw[hr] at h;cases h
 |ok a w2=>
  rw[hr] at h;rw[d w w2 a hr w'];exact b a w2 w1 v h w'
theorem nN.bind {m:Sem α} {f:α->Sem β} (b: ∀a,nN P (f a)):nN P (m>>=f):=λw w1 v h=>by
 rw[jq] at h;cases hr:m.run P w with
 |halt x w2=>rw[hr] at h;cases h
 |ok a w2=>
  rw[hr] at h;exact b a w2 w1 v h
theorem nN.left {m:Sem α} {f:α->Sem β} (b:nN P m):nN P (m>>=f):=λw w1 v h=>by
 rw[jq] at h;cases hr:m.run P w with
 |halt x w2=>rw[hr] at h;cases h
 |ok a w2=>exact b w w2 a hr
theorem eB (x:Halt):nN P (.halt x:Sem α):=λw w1 v h=>by cases h
theorem BF (e:RuntimeError):nN P (runtimePanic e:Sem α):=by
 unfold runtimePanic;refine nN.bind λp=> ?_;cases e with
 |typeAssertion i c a m=>exact nN.bind λ_=>nN.bind λ_=>eB _
 |panicNil=>exact nN.bind λ_=>nN.bind λ_=>eB _
 |_=>exact eB _
theorem BS (t:TypeId):bU P (underlying t):=by
 unfold underlying;refine bU.bind (λw w1 v h w'=> ?_) λp=> ?_
 ·simp only[program,Sem.run,Dn] at h ⊢;exact⟨h.1,trivial⟩
 split
 ·exact bU.pure _
 exact(eB _).free
theorem aAw (t:TypeId):bU P (typeInfo t):=by
 unfold typeInfo;refine bU.bind (λw w1 v h w'=> ?_) λp=> ?_
 ·simp only[program,Sem.run,Dn] at h ⊢;exact⟨h.1,trivial⟩
 split
 ·exact bU.pure _
 exact(eB _).free
theorem tY (t:TypeId):bU P (sizeOf t):=bU.bind (aAw t) λ_=>bU.pure _
theorem rE (x:Value) (y:Nat) (c:BoundsCode):bU P (Instr.sliceBound x y c):=by
 unfold Instr.sliceBound;refine bU.bind ?_ λp=> ?_
 ·unfold asIntOf;split
  ·exact bU.pure _
  ·exact(eB _).free
  exact(eB _).free
 obtain ⟨k,i⟩:=p;simp only;split
 ·exact bU.pure _
 unfold boundsPanic;dsimp only;split
 ·exact(nN.bind λ_=>BF _).free
 exact(nN.bind λ_=>BF _).free
theorem vU (b:Bool) (n c:Nat) (lo hi a:Option Value):bU P (Instr.sliceBounds b n c lo hi a):=by
 unfold Instr.sliceBounds;cases a with
 | none=>
  refine bU.bind (bU.pure _) λm=> ?_;cases hi with
  |none=>
   refine bU.bind (bU.pure _) λh=> ?_;cases lo with
   |none=>exact bU.bind (bU.pure _) λl=>bU.pure _
   |some v=>exact bU.bind (rE _ _ _) λl=>bU.pure _
  |some u=>
   refine bU.bind (rE _ _ _) λh=> ?_;cases lo with
   |none=>exact bU.bind (bU.pure _) λl=>bU.pure _
   |some v=>exact bU.bind (rE _ _ _) λl=>bU.pure _
 | some x=>
  refine bU.bind (rE _ _ _) λm=> ?_;cases hi with
  |none=>exact(nN.left (eB _)).free
  |some u=>
   refine bU.bind (rE _ _ _) λh=> ?_;cases lo with
   |none=>exact bU.bind (bU.pure _) λl=>bU.pure _
   |some v=>exact bU.bind (rE _ _ _) λl=>bU.pure _
theorem aWq (x:Value):bU P (asAddr x):=by
 unfold asAddr;split
 ·exact bU.pure _
 ·exact(BF _).free
 exact(eB _).free
theorem aNx (t:TypeId) (x:Value) (lo hi a:Option Value):bU P (Instr.slice t x lo hi a):=by
 unfold Instr.slice;refine bU.bind (BS t) λd=> ?_;split
 ·split
  ·exact(nN.left (eB _)).free
  exact bU.bind (vU _ _ _ _ _ _) λ_=>bU.pure _
 ·exact bU.bind (vU _ _ _ _ _ _) λ_=>bU.bind (tY _) λ_=>bU.pure _
 ·refine bU.bind (aWq _) λ_=>bU.bind (BS _) λ_=> ?_;split
  ·exact bU.bind (vU _ _ _ _ _ _) λ_=>bU.bind (tY _) λ_=>bU.pure _
  exact(eB _).free
 exact(eB _).free
theorem aWo (x:Value):bU P (Instr.sureAddr x):=by
 unfold Instr.sureAddr;split
 ·exact bU.pure _
 exact(eB _).free
theorem aDr (t:TypeId) (x:Value) (lo hi a:Option Value):bU P (Instr.sliceAt t x lo hi a):=by
 unfold Instr.sliceAt;refine bU.bind (BS t) λd=> ?_;split
 ·exact bU.bind (aWo _) λ_=>bU.bind (vU _ _ _ _ _ _) λ_=>bU.bind (tY _) λ_=>bU.pure _
 exact aNx _ _ _ _ _
end
def bUd (P:Program) {α:Type} (m:Sem α):Prop:= ∀w v,m.run P w= .ok v w-> ∀w',m.run P w'= .ok v w'
def kF (P:Program) {α:Type} (m:Sem α):Prop:= ∀w v,m.run P w≠ .ok v w
section
variable {P:Program} {α β:Type}
theorem bU.stay {m:Sem α} (h:bU P m):bUd P m:=λw v e=>h w w v e
theorem kF.stay {m:Sem α} (h:kF P m):bUd P m:=λw v e=>absurd e (h w v)
theorem nN.noSame {m:Sem α} (h:nN P m):kF P m:=λw v e=>h w w v e
theorem kF.bind {m:Sem α} {f:α->Sem β} (e:bU P m) (d: ∀a,kF P (f a)):kF P (m>>=f):=λw v h=>by
 rw[jq] at h;cases hr:m.run P w with
 |halt x w2=>rw[hr] at h;cases h
 |ok a w2=>
  have b:=e w w2 a hr w;rw[hr] at b;cases b;rw[hr] at h;exact d a w v h
theorem kF.left {m:Sem α} {f:α->β} (b:kF P m):kF P (m>>=λa=>(Pure.pure (f a):Sem β)):=λw v h=>by
 rw[jq] at h;cases hr:m.run P w with
 |halt x w2=>rw[hr] at h;cases h
 |ok a w2=>
  rw[hr] at h;simp only[Result.andThen,qg,Dn] at h;rw[h.2] at hr;exact b w a hr
theorem aAv (t:TypeId):bU P (zeroValue t):=by
 unfold zeroValue;refine bU.bind (aAw t) λi=> ?_;split
 ·exact bU.pure _
 exact(eB _).free
theorem wW (e:TypeId) (cs:Array Value):kF P (newRow e cs):=λw v h=>by
 simp[newRow,newObj,Sem.run,Result.andThen] at h;have:=bi (λw:World=>w.heap.size) h.2;unfold World.alloc at this;simp only[Array.size_push] at this;omega
theorem VT (f:α->Sem β) (b: ∀a,bU P (f a)): ∀l:List α,bU P (l.mapM f)
 |[]=>by rw[List.mapM_nil];exact bU.pure _
 |a::l=>by
  rw[List.mapM_cons];exact bU.bind (b a) λ_=>bU.bind (VT f b l) λ_=>bU.pure _
theorem aWp (f:α->Sem β) (b: ∀a,bU P (f a)) (l:Array α):bU P (l.mapM f):=by
 rw[Array.mapM_eq_mapM_toList,<-bind_pure_comp];exact bU.bind (VT f b _) λ_=>bU.pure _
theorem aNy (t:TypeId) (ps:Array (Nat × Value)):bU P (Instr.build t ps):=by
 unfold Instr.build;refine bU.bind (aAv t) λz=>bU.bind (BS t) λd=> ?_;split
 ·refine bU.bind (aWp _ (λ_=>bU.bind (tY _) λ_=>bU.pure _) _) λ_=> ?_;split
  ·exact bU.pure _
  exact(eB _).free
 ·refine bU.bind (tY _) λ_=> ?_;split
  ·exact bU.pure _
  exact(eB _).free
 exact(eB _).free
theorem JU (t:TypeId) (n:Nat) (ps:Array (Nat × Value)):kF P (Instr.buildSlice t n ps):=by
 unfold Instr.buildSlice;refine kF.bind (BS t) λd=> ?_;split
 ·refine kF.bind (tY _) λs=> ?_;dsimp only;split
  ·exact(nN.left (eB _)).noSame
  split
  ·refine kF.bind (bU.pure _) λz=> ?_;split
   ·exact kF.left (wW _ _)
   exact(eB _).noSame
  refine kF.bind (aAv _) λz=>kF.bind (bU.pure _) λz=> ?_;split
  ·exact kF.left (wW _ _)
  exact(eB _).noSame
 exact(eB _).noSame
theorem aNg (t:TypeId) (v:Value):kF P (Instr.box t v):=kF.left (wW _ _)
end
def bEq:Op->Bool
 | .move _=>true
 | .slice .. =>true
 | .build .. =>true
 | .buildSlice .. =>true
 | .box .. =>true
 | .extract .. =>true
 |_=>false
theorem aDs {P:Program} (v:Value) (i:Nat):bU P (Instr.extract v i):=by
 unfold Instr.extract
 repeat' first
  |exact bU.pure _
  |exact(eB _).free
  |split
theorem bMp {P:Program} {o:Oper} (h:bEq o.op=true) (ρ:Operand->Value):bUd P (execOp ρ o):=by
 unfold execOp;cases ho:o.op<;>(try (rw[ho] at h;cases h))
 all_goals first
  |exact(bU.pure _).stay
  |exact(kF.left (aNg _ _)).stay
  |exact(bU.bind (aNy _ _) λ_=>bU.pure _).stay
  |exact(kF.left (JU _ _ _)).stay
  |exact(bU.bind (aDr _ _ _ _ _) λ_=>bU.pure _).stay
  |exact(bU.bind (aDs _ _) λ_=>bU.pure _).stay
section
variable {P:Program} {ops:Array Oper} {Q:Exit->Act->World->Prop}
section
variable {ab:AI} {o:Oper} {v:Value}
def anc (ops:Array Oper):Nat->Nat->Nat->Bool
 |0,_,_=>false
 |f+1,j,k=>((ops[j]?).map (·.after.any λe=>Region.binds .any e && (Nat.beq e.on k||anc ops f e.on k))).getD false
def XA (ops:Array Oper) (ab:AI) (i:Nat):Bool:=
 (List.range ops.size).all λk=> !ab.getD k false||anc ops ops.size i k||((ops[k]?).map (bEq ·.op)).getD false
def zF (ops:Array Oper) (ab:AI):Bool:=
 (List.range ops.size).all λk=> !ab.getD k false||((ops[k]?).map (·.after.all λe=> !Region.binds .any e||ab.getD e.on false)).getD false
theorem KY (h:zF ops ab=true) {k:Nat} {o:Oper} (hk:ops[k]? =some o) (hl:ab.getD k false=true): ∀e∈o.after,Region.binds .any e=true->ab.getD e.on false=true:=by
 intro e b hb;have ci:k<ops.size:=(gu.1 hk).1;have:=sj.1 h k (jr.2 ci);rw[hl,hk] at this;simp only[Fw,Iw,lh,qj] at this;obtain⟨q,d,rfl⟩:=Array.mem_iff_getElem.1 b;have a:=Ic.1 this q d;rw[hb] at a;simpa using a
theorem XE {ab:AI} (hc:zF ops ab=true): ∀(f j k:Nat) (b:Oper),ops[j]? =some b->(∀e∈b.after,Region.binds .any e=true->ab.getD e.on false=true)->anc ops f j k=true->ab.getD k false=true
 |0,_,_,_,_,_,h=>by cases h
 | f+1,j,k,b,Rg,gr,h=>by
  unfold anc at h;rw[Rg] at h;simp only[lh,qj,Array.any_eq_true] at h;obtain⟨q,g,h⟩:=h;have d:b.after[q]∈b.after:=Ie g;simp only[lv,Bn] at h;have hl:=gr _ d h.1;rcases h.2 with a|a
  ·rw[<-um a];exact hl
  cases ho:ops[b.after[q].on]? with
  |none=>
   exfalso;cases f with
   |zero=>cases a
   |succ f=>unfold anc at a;rw[ho] at a;simp at a
  |some om=>exact XE hc f _ k om ho (KY hc ho hl) a
theorem aJz (hc:zF ops ab=true) {j:Nat} {a:Oper} (g:ops[j]? =some a) (i: ∀e∈a.after,Region.binds .any e=true->ab.getD e.on false=true):zF ops (ab.setIfInBounds j true)=true:=by
 have up: ∀k,ab.getD k false=true->(ab.setIfInBounds j true).getD k false=true:=by
  intro k hk;by_cases e:j=k
  ·subst e
   have ci:j<ab.size:=by
    rcases gm j ab.size with h|h
    ·exact h
    simp[Eg h] at hk
   simp[ci]
  simp only[zk,Bl,e,xq] at hk ⊢;exact hk
 unfold zF;refine sj.2 λk hk=> ?_;by_cases d:k=j
 ·subst d;rw[g];simp only[lh,qj]
  have:(a.after.all λe=> !Region.binds .any e||(ab.setIfInBounds k true).getD e.on false)=true:=by
   refine Ic.2 λq b=> ?_;cases hb:Region.binds .any a.after[q] with
   |false=>rfl
   |true=>simp only[Fw,Iw];exact up _ (i _ (Ie b) hb)
  rw[this,Bool.or_true]
 cases hl:ab.getD k false with
 | false=>
  have:(ab.setIfInBounds j true).getD k false=false:=by
   simp only[zk,Bl,Ik d,xq] at hl ⊢;exact hl
  rw[this];rfl
 | true=>
  cases ho:ops[k]? with
  |none=>
   have l:=jr.1 hk;rw[Array.getElem?_eq_none_iff] at ho;omega
  | some ok=>
   have h1:=KY hc ho hl
   have:(ok.after.all λe=> !Region.binds .any e||(ab.setIfInBounds j true).getD e.on false)=true:=by
    refine Ic.2 λq b=> ?_;cases hb:Region.binds .any ok.after[q] with
    |false=>rfl
    |true=>simp only[Fw,Iw];exact up _ (h1 _ (Ie b) hb)
   simp only[lh,qj,this,Bool.or_true]
def zQ (P:Program) (ops:Array Oper) (Q:Exit->Act->World->Prop):Nat->(World->Prop)->AI->Act->World->Prop
 |0,_,ab,a,w=>Region.ready .any ops ab=[]/\Q .normal a w
 |bh+1,S,ab,a,w=>(Region.ready .any ops ab=[]->Q .normal a w)/\
  ∀i∈Region.ready .any ops ab,wpOp P ops Q i (λa' w'=> ∃S':World->Prop,S' w'/\(XA ops ab i=true\/ ∀x,S' x->S x)/\zQ P ops Q bh S' (ab.setIfInBounds i true) a' w') a w
theorem FZ: ∀(bh:Nat) (S:World->Prop) (ab:AI) (a:Act) (w:World),zQ P ops Q bh S ab a w->wpAny P .any ops Q bh ab a w
 |0,_,_,_,_,h=>h
 |bh+1,_,_,_,_,h=>⟨h.1,λi hi=>wpOp_mono (λd w' ⟨b,_,_,e⟩=>FZ bh b _ d w' e) (h.2 i hi)⟩
theorem YieldsIf.shrink {S b:World->Prop} {a:Act} (h:YieldsIf P ops S o v a) (hs: ∀x,b x->S x):YieldsIf P ops b o v a:=
 h.imp (λ⟨g,e⟩=>⟨g,λw d=>e w (hs w d)⟩) id
theorem IG {i:Nat} {m:Oper} (hi:ops[i]? =some m) (l: ∀(j:Nat) (o:Oper) cs b,ops[j]? =some o->o.op≠ .select cs b)
  (hQ: ∀c a w,Q (.panic c) (a.put m.dst v) w->Q (.panic c) a w):
  ∀(bh:Nat) (S:World->Prop) (ab:AI) (a:Act) (w:World),
   zF ops ab=true->(∀j p,ops[j]? =some p->j≠i->ab.getD j true=false->(∀e∈p.after,Region.binds .any e=true->e.on≠i)->m.apart ops p=true)->
   i∈Region.ready .any ops ab->YieldsIf P ops S m v a->S w->
   zQ P ops Q bh S (ab.setIfInBounds i true) (a.put m.dst v) w->zQ P ops Q (bh+1) S ab a w:=by
 intro bh
 induction bh with
 | zero=>
  intro S ab a w _ _ d J r H;refine⟨λh=>(by rw[h] at d;cases d),λj F=> ?_⟩;by_cases g:j=i
  ·subst g;exact J.wpOp hi r ⟨S,r, .inr λ_ h=>h,H⟩
  have:=ready_mono F g;rw[H.1] at this;cases this
 | succ bh ih=>
  intro S ab a w mt X d J r H;refine⟨λh=>(by rw[h] at d;cases d),λj F=> ?_⟩;by_cases g:j=i
  ·subst g;exact J.wpOp hi r ⟨S,r, .inr λ_ h=>h,H⟩
  have h1:=H.2 j (ready_mono F g);obtain⟨Y,p,y,L⟩:=mem_ready.1 F
  have R:i<ab.size:=by
   have q:=(mem_ready.1 d).1;rcases gm i ab.size with M|M
   ·exact M
   simp[Eg M] at q
  have Rf: ∀e∈p.after,Region.binds .any e=true->e.on≠i:=λe he hb Mh=>by
   have h1:=L e he hb;have q:=(mem_ready.1 d).1;rw[Mh] at h1;simp[R] at q h1;rw[q] at h1;cases h1
  have h2:=wpOp_putIf y (X j p y g Y Rf) (λcs b=>l i m cs b hi) (λcs b=>l j p cs b y) hQ J h1
  have Up: ∀k ok,ops[k]? =some ok->k≠i->(ab.setIfInBounds j true).getD k true=false->
    (∀e∈ok.after,Region.binds .any e=true->e.on≠i)->m.apart ops ok=true:=λk ok hk O u ue=>by
   refine X k ok hk O ?_ ue;by_cases B:j=k
   ·subst B;exact Y
   rw[getD_set_ne true B] at u;exact u
  refine wpOp_mono (λa' w' ⟨C,D,A,l7,hB⟩=> ?_) h2
  have u:ab.getD i false=false:=by
   have q:=(mem_ready.1 d).1;simp[R] at q ⊢;exact q
  have T:(XA ops ab j=true\/ ∀x,D x->S x)/\YieldsIf P ops D m v a':=by
   rcases l7 with hb|hs
   ·have N:i<ops.size:=(gu.1 hi).1;have K:=sj.1 hb i (jr.2 N);have e1:(ab.setIfInBounds i true).getD i false=true:=by simp[R]
    rw[e1,hi] at K;simp only[Fw,Iw,lh,qj,Bn] at K;rcases K with ha|hm
    ·have:=XE mt _ j i p y L ha;rw[u] at this;cases this
    refine ⟨.inl ?_,?_⟩
    ·refine sj.2 λk hk=> ?_;have h3:=sj.1 hb k hk;by_cases e:i=k
     ·subst e;rw[u];rfl
     simp only[zk,Bl,e,xq] at h3 ⊢;exact h3
    exact C.imp (λ⟨hw,hv⟩=>⟨hw,λVy _=>bMp hm _ _ _ (hv w r) Vy⟩) id
   exact⟨.inr hs,YieldsIf.shrink C hs⟩
  refine⟨D,A,T.1,ih D (ab.setIfInBounds j true) a' w' (aJz mt y L) Up (ready_mono d (Ik g)) T.2 A ?_⟩;rw[Array.setIfInBounds_comm _ _ g];exact hB
end
end
section
variable {P:Program} {n:Nd} {B:Nat} {w0:World} {ops:Array Oper} {K:Env->List Row->Prop} {L:Env} {R:List Row} {op:Op} {ty:TypeId} {pos:String} {na:Array Edge}
section
variable {i d bh j e:Nat} {v:Value} {o:Oper} {ab:AI} {want:Bool} {Post:Value->List Row->Prop}
def WD (P:Program) (n:Nd) (B:Nat) (w0:World) (ops:Array Oper) (K:Env->List Row->Prop) (bh:Nat) (ab:AI) (L:Env) (R:List Row):Prop:=
 ∀a w (Q:Exit->Act->World->Prop),Sat n L a->Hp B w0 w R->(∀c a w,¬Q (.panic c) a w)->(∀a' w' L' R',Sat n L' a'->Hp B w0 w' R'->K L' R'->Q .normal a' w')->zQ P ops Q bh (λw=>Hp B w0 w R) ab a w
theorem bE {id:Nat} {l:List Oper} {Q:fP} (e:P.follows .mixedOrders=true) (h:WD P n B w0 l.toArray Q.nrm l.toArray.size (Array.replicate l.toArray.size false) L R) (d:qF n.rd l=true:=by exact rfl):W P n B w0 (.region id l.toArray true) Q L R:=by
 intro a w hs hp;refine wpIn_region_any e (aKl aPq d _ _ _ _<|FZ _ _ _ _ _ (h a _ _ hs (hp.drawn _ (Ij _)) (λ_ _ _ h=>h) λ_ _ L' R' ge b hk=>⟨L',R',ge,b,hk⟩))
def chk (ops:Array Oper) (ab:AI) (i:Nat):Bool:=Region.noSelect ops && Region.free .any ops ab i && (Region.ready .any ops ab).contains i && zF ops ab
theorem PU (hi:ops[i]? =some o) (k:o.dst=some d) (hc:chk ops ab i=true) (hn:Nat.blt d n=true)
  (p: ∀a,Sat n L a->YieldsIf P ops (λw=>Hp B w0 w R) o v a) (h:WD P n B w0 ops K bh (ab.setIfInBounds i true) ((d,v)::L) R):WD P n B w0 ops K (bh+1) ab L R:=by
 intro a w Q hs hp b m;simp only[chk,lv] at hc;obtain⟨⟨⟨h1,e⟩,g⟩,j⟩:=hc;refine IG hi (Region.noSelect_spec h1) (λc a w l=>(b c _ w l).elim) bh _ ab a w j (Region.free_spec hi e) (by simpa using g) (p a hs) hp ?_;rw[k];exact h _ w Q (hs.put hn v) hp b m
theorem bUt (i:Nat) (hi:ops[i]? =some {dst:=some d,op:=op,type:=ty,pos:=pos,after:=na,guard:=none}) (hc:chk ops ab i=true) (hn:Nat.blt d n=true)
  (e:Yl P n B w0 op ty L R v) (h:WD P n B w0 ops K bh (ab.setIfInBounds i true) ((d,v)::L) R):WD P n B w0 ops K (bh+1) ab L R:=
 PU hi rfl hc hn (λa hs=> .inl ⟨rfl,λw b=>e a w _ rfl rfl hs b⟩) h
theorem bOq (i:Nat) (hi:ops[i]? =some {dst:=some d,op:=op,type:=ty,pos:=pos,after:=na,guard:=some (j,want)}) (hc:chk ops ab i=true) (hn:Nat.blt d n=true)
  (b:(ops[j]?).bind (·.dst)=some e) (hb:lk L e=some (.bool want)) (k:Yl P n B w0 op ty L R v) (h:WD P n B w0 ops K bh (ab.setIfInBounds i true) ((d,v)::L) R):WD P n B w0 ops K (bh+1) ab L R:=
 PU hi rfl hc hn (λa hs=> .inl ⟨by simp[Region.wanted,uE hs b hb],λw g=>k a w _ rfl rfl hs g⟩) h
theorem bOr {b:Bool} (i:Nat) (hi:ops[i]? =some {dst:=some d,op:=op,type:=ty,pos:=pos,after:=na,guard:=some (j,want)}) (hc:chk ops ab i=true) (hn:Nat.blt d n=true)
  (g:(ops[j]?).bind (·.dst)=some e) (hb:lk L e=some (.bool b)) (k:(b==want)=false) (h:WD P n B w0 ops K bh (ab.setIfInBounds i true) ((d,undef)::L) R):WD P n B w0 ops K (bh+1) ab L R:=
 PU hi rfl hc hn (λa hs=> .inr ⟨by simp only[Region.wanted,uE hs g hb];cases b<;>cases want<;>simp_all,rfl⟩) h
theorem bRd (i:Nat) (hi:ops[i]? =some {dst:=some d,op:=op,type:=ty,pos:=pos,after:=na,guard:=some (j,want)}) (hc:chk ops ab i=true) (hn:Nat.blt d n=true)
  (b:(ops[j]?).bind (·.dst)=some e) (hb:lk L e=some undef) (h:WD P n B w0 ops K bh (ab.setIfInBounds i true) ((d,undef)::L) R):WD P n B w0 ops K (bh+1) ab L R:=
 PU hi rfl hc hn (λa hs=> .inr ⟨by simp[Region.wanted,FI hs b hb],rfl⟩) h
theorem bRe (d:Region.ready .any ops ab=[]) (h:K L R):WD P n B w0 ops K bh ab L R:=by
 intro a w Q hs hp e b;cases bh with
 |zero=>exact⟨d,b _ _ L R hs hp h⟩
 |succ bh=>exact⟨λ_=>b _ _ L R hs hp h,by rw[d];simp⟩
theorem aLa (hi:ops[i]? =some o) (g:Region.ready .any ops ab=[i]) (p: ∀a,Sat n L a->Region.wanted o (yielded ops a.tmps)=true) (m:Ac P n B w0 o.op o.type L R Post)
  (hn: ∀v a,Sat n L a->Sat n (match o.dst with|some d=>(d,v)::L|none=>L) (a.put o.dst v))
  (h: ∀v R',Post v R'->(XA ops ab i=true\/ ∀w,Hp B w0 w R'->Hp B w0 w R)/\WD P n B w0 ops K bh (ab.setIfInBounds i true) (match o.dst with|some d=>(d,v)::L|none=>L) R'):WD P n B w0 ops K (bh+1) ab L R:=by
 intro a w Q hs hp u q;refine⟨λk=>absurd (g▸k) cD,λj e=> ?_⟩;rw[g] at e;obtain rfl:=gz.1 e;unfold wpOp;simp only[hi,p a hs,Jy];refine .inl (m a w o _ Q rfl rfl hs hp λv w' R' b r=> ?_);obtain⟨h1,l⟩:=h v R' r;exact⟨λw=>Hp B w0 w R',b,h1,l _ w' Q (hn v a hs) b u q⟩
theorem bZt (i:Nat) (hi:ops[i]? =some {dst:=some d,op:=op,type:=ty,pos:=pos,after:=na,guard:=none}) (b:Region.ready .any ops ab=[i]) (hn:Nat.blt d n=true) (a:Ac P n B w0 op ty L R Post)
  (h: ∀v R',Post v R'->(XA ops ab i=true\/ ∀w,Hp B w0 w R'->Hp B w0 w R)/\WD P n B w0 ops K bh (ab.setIfInBounds i true) ((d,v)::L) R'):WD P n B w0 ops K (bh+1) ab L R:=
 aLa hi b (λ_ _=>rfl) a (λv _ hs=>hs.put hn v) h
theorem aFd (i:Nat) (hi:ops[i]? =some {dst:=some d,op:=op,type:=ty,pos:=pos,after:=na,guard:=some (j,want)}) (k:Region.ready .any ops ab=[i]) (hn:Nat.blt d n=true)
  (g:(ops[j]?).bind (·.dst)=some e) (hb:lk L e=some (.bool want)) (b:Ac P n B w0 op ty L R Post)
  (h: ∀v R',Post v R'->(XA ops ab i=true\/ ∀w,Hp B w0 w R'->Hp B w0 w R)/\WD P n B w0 ops K bh (ab.setIfInBounds i true) ((d,v)::L) R'):WD P n B w0 ops K (bh+1) ab L R:=
 aLa hi k (λa hs=>by simp[Region.wanted,uE hs g hb]) b (λv _ hs=>hs.put hn v) h
theorem qN (i:Nat) (hi:ops[i]? =some {dst:=none,op:=op,type:=ty,pos:=pos,after:=na,guard:=none}) (b:Region.ready .any ops ab=[i]) (a:Ac P n B w0 op ty L R Post)
  (h: ∀v R',Post v R'->(XA ops ab i=true\/ ∀w,Hp B w0 w R'->Hp B w0 w R)/\WD P n B w0 ops K bh (ab.setIfInBounds i true) L R'):WD P n B w0 ops K (bh+1) ab L R:=
 aLa hi b (λ_ _=>rfl) a (λ_ _ hs=>hs) h
theorem gM (d:Nat) {p:Prop} [Decidable p] (hb:lk L d=some (.bool (decide p))) (g:p->WD P n B w0 ops K bh ab ((d, .bool true)::L) R) (e: ¬p->WD P n B w0 ops K bh ab ((d, .bool false)::L) R):WD P n B w0 ops K bh ab L R:=by
 intro a w Q hs hp b;by_cases h:p
 ·exact g h a w Q (hs.sub (tT (by rw[hb,nz h]))) hp b
 exact e h a w Q (hs.sub (tT (by rw[hb,mo h]))) hp b
theorem iA {u:Value} (hu:u=v) (h:WD P n B w0 ops K bh ab ((d,v)::L) R):WD P n B w0 ops K bh ab ((d,u)::L) R:=by
 subst hu;exact h
theorem pX {R1:List Row} (hR:R=R1) (h:WD P n B w0 ops K bh ab L R1):WD P n B w0 ops K bh ab L R:=by
 subst hR;exact h
end
end
end Go.Eng
namespace Go.Eng
open Go Go.RowKit
section
variable {P:Program} {n:Nd} {B:Nat} {w0:World}
section
variable {c x y:Code} {L:Env} {R:List Row} {f:FuncId} {args:Array Value}
theorem iK {σ0:Type} {Q:fP} (Lx:σ0->Env) (Rx:σ0->List Row) (J:σ0->Prop) (μ:σ0->Nat)
  (b: ∃x0,J x0/\Sub (Lx x0) L/\ ∀w,Hp B w0 w R->Hp B w0 w (Rx x0))
  (round: ∀x0,J x0->W P n B w0 c {Q with nrm:=λL' R'=> ∃a,J a/\μ a<μ x0/\Sub (Lx a) L'/\ ∀w,Hp B w0 w R'->Hp B w0 w (Rx a)} (Lx x0) (Rx x0)):W P n B w0 (.loop c) Q L R:=by
 obtain⟨x0,h1,d,e⟩:=b;refine oK (σ:=σ0) (λp=>Lx p) (λp=>Rx p) (λp=>J p) (λp=>μ p) ⟨x0,h1,d,e⟩ λp hp=>iP (round p hp) ?_ (λ_ _ h=>h) (λ_ _ _ h=>h);rintro L' R' ⟨a,g1,g2,g3,g4⟩;exact⟨a,⟨g1,g2⟩,g3,g4⟩
theorem dF {f g:Type} {Q:fP} (Lx:f->g->Env) (Rx:f->g->List Row) (J:f->g->Prop) (μ:f->g->Nat)
  (i: ∃a b,J a b/\Sub (Lx a b) L/\ ∀w,Hp B w0 w R->Hp B w0 w (Rx a b))
  (round: ∀a b,J a b->W P n B w0 c {Q with nrm:=λL' R'=> ∃d e,J d e/\μ d e<μ a b/\Sub (Lx d e) L'/\ ∀w,Hp B w0 w R'->Hp B w0 w (Rx d e)} (Lx a b) (Rx a b)):W P n B w0 (.loop c) Q L R:=by
 obtain⟨a,b,h1,j,k⟩:=i;refine oK (σ:=f × g) (λp=>Lx p.1 p.2) (λp=>Rx p.1 p.2) (λp=>J p.1 p.2) (λp=>μ p.1 p.2) ⟨(a,b),h1,j,k⟩ λp hp=>iP (round p.1 p.2 hp) ?_ (λ_ _ h=>h) (λ_ _ _ h=>h);rintro L' R' ⟨d,e,g1,g2,g3,g4⟩;exact⟨(d,e),⟨g1,g2⟩,g3,g4⟩
theorem gX {i j k:Type} {Q:fP} (Lx:i->j->k->Env) (Rx:i->j->k->List Row) (J:i->j->k->Prop) (μ:i->j->k->Nat)
  (l: ∃a b d,J a b d/\Sub (Lx a b d) L/\ ∀w,Hp B w0 w R->Hp B w0 w (Rx a b d))
  (round: ∀a b d,J a b d->W P n B w0 c {Q with nrm:=λL' R'=> ∃e f g,J e f g/\μ e f g<μ a b d/\Sub (Lx e f g) L'/\ ∀w,Hp B w0 w R'->Hp B w0 w (Rx e f g)} (Lx a b d) (Rx a b d)):W P n B w0 (.loop c) Q L R:=by
 obtain⟨a,b,d,h1,m,o⟩:=l;refine oK (σ:=i × j × k) (λp=>Lx p.1 p.2.1 p.2.2) (λp=>Rx p.1 p.2.1 p.2.2) (λp=>J p.1 p.2.1 p.2.2) (λp=>μ p.1 p.2.1 p.2.2) ⟨(a,b,d),h1,m,o⟩ λp hp=>iP (round p.1 p.2.1 p.2.2 hp) ?_ (λ_ _ h=>h) (λ_ _ _ h=>h);rintro L' R' ⟨e,f,g,g1,g2,g3,g4⟩;exact⟨(e,f,g),⟨g1,g2⟩,g3,g4⟩
theorem DD {k l m o:Type} {Q:fP} (Lx:k->l->m->o->Env) (Rx:k->l->m->o->List Row) (J:k->l->m->o->Prop) (μ:k->l->m->o->Nat)
  (q: ∃a b d e,J a b d e/\Sub (Lx a b d e) L/\ ∀w,Hp B w0 w R->Hp B w0 w (Rx a b d e))
  (round: ∀a b d e,J a b d e->W P n B w0 c {Q with nrm:=λL' R'=> ∃f g i j,J f g i j/\μ f g i j<μ a b d e/\Sub (Lx f g i j) L'/\ ∀w,Hp B w0 w R'->Hp B w0 w (Rx f g i j)} (Lx a b d e) (Rx a b d e)):W P n B w0 (.loop c) Q L R:=by
 obtain⟨a,b,d,e,h1,r,u⟩:=q;refine oK (σ:=k × l × m × o) (λp=>Lx p.1 p.2.1 p.2.2.1 p.2.2.2) (λp=>Rx p.1 p.2.1 p.2.2.1 p.2.2.2) (λp=>J p.1 p.2.1 p.2.2.1 p.2.2.2) (λp=>μ p.1 p.2.1 p.2.2.1 p.2.2.2) ⟨(a,b,d,e),h1,r,u⟩ λp hp=>iP (round p.1 p.2.1 p.2.2.1 p.2.2.2 hp) ?_ (λ_ _ h=>h) (λ_ _ _ h=>h);rintro L' R' ⟨f,g,i,j,g1,g2,g3,g4⟩;exact⟨(f,g,i,j),⟨g1,g2⟩,g3,g4⟩
theorem eT {m o q r s:Type} {Q:fP} (Lx:m->o->q->r->s->Env) (Rx:m->o->q->r->s->List Row) (J:m->o->q->r->s->Prop) (μ:m->o->q->r->s->Nat)
  (u: ∃a b d e f,J a b d e f/\Sub (Lx a b d e f) L/\ ∀w,Hp B w0 w R->Hp B w0 w (Rx a b d e f))
  (round: ∀a b d e f,J a b d e f->W P n B w0 c {Q with nrm:=λL' R'=> ∃g i j k l,J g i j k l/\μ g i j k l<μ a b d e f/\Sub (Lx g i j k l) L'/\ ∀w,Hp B w0 w R'->Hp B w0 w (Rx g i j k l)} (Lx a b d e f) (Rx a b d e f)):W P n B w0 (.loop c) Q L R:=by
 obtain⟨a,b,d,e,f,h1,v,x⟩:=u;refine oK (σ:=m × o × q × r × s) (λp=>Lx p.1 p.2.1 p.2.2.1 p.2.2.2.1 p.2.2.2.2) (λp=>Rx p.1 p.2.1 p.2.2.1 p.2.2.2.1 p.2.2.2.2) (λp=>J p.1 p.2.1 p.2.2.1 p.2.2.2.1 p.2.2.2.2) (λp=>μ p.1 p.2.1 p.2.2.1 p.2.2.2.1 p.2.2.2.2) ⟨(a,b,d,e,f),h1,v,x⟩ λp hp=>iP (round p.1 p.2.1 p.2.2.1 p.2.2.2.1 p.2.2.2.2 hp) ?_ (λ_ _ h=>h) (λ_ _ _ h=>h);rintro L' R' ⟨g,i,j,k,l,g1,g2,g3,g4⟩;exact⟨(g,i,j,k,l),⟨g1,g2⟩,g3,g4⟩
theorem bJe {f g i j k:Type} {Q:fP} (Lx:f->g->i->j->k->Env) (Rx:f->g->i->j->k->List Row) (J:f->g->i->j->k->Prop)
  (o:W P n B w0 x {Q with nrm:=λL' R'=> ∃a b c d e,J a b c d e/\Sub (Lx a b c d e) L'/\ ∀w,Hp B w0 w R'->Hp B w0 w (Rx a b c d e)} L R) (p: ∀a b c d e,J a b c d e->W P n B w0 y Q (Lx a b c d e) (Rx a b c d e)):W P n B w0 (.seq x y) Q L R:=
 aA (iP o (λ_ _ ⟨a,b,c,d,e,l,m,hR⟩=>aPw m hR (p a b c d e l)) (λ_ _ h=>h) (λ_ _ _ h=>h))
theorem nX {q r s t u v:Type} {Q:fP} (Lx:q->r->s->t->u->v->Env) (Rx:q->r->s->t->u->v->List Row) (J:q->r->s->t->u->v->Prop) (μ:q->r->s->t->u->v->Nat)
  (x: ∃a b d e f g,J a b d e f g/\Sub (Lx a b d e f g) L/\ ∀w,Hp B w0 w R->Hp B w0 w (Rx a b d e f g))
  (round: ∀a b d e f g,J a b d e f g->W P n B w0 c {Q with nrm:=λL' R'=> ∃i j k l m o,J i j k l m o/\μ i j k l m o<μ a b d e f g/\Sub (Lx i j k l m o) L'/\ ∀w,Hp B w0 w R'->Hp B w0 w (Rx i j k l m o)} (Lx a b d e f g) (Rx a b d e f g)):W P n B w0 (.loop c) Q L R:=by
 obtain⟨a,b,d,e,f,g,h1,y,A⟩:=x;refine oK (σ:=q × r × s × t × u × v) (λp=>Lx p.1 p.2.1 p.2.2.1 p.2.2.2.1 p.2.2.2.2.1 p.2.2.2.2.2) (λp=>Rx p.1 p.2.1 p.2.2.1 p.2.2.2.1 p.2.2.2.2.1 p.2.2.2.2.2) (λp=>J p.1 p.2.1 p.2.2.1 p.2.2.2.1 p.2.2.2.2.1 p.2.2.2.2.2) (λp=>μ p.1 p.2.1 p.2.2.1 p.2.2.2.1 p.2.2.2.2.1 p.2.2.2.2.2) ⟨(a,b,d,e,f,g),h1,y,A⟩ λp hp=>iP (round p.1 p.2.1 p.2.2.1 p.2.2.2.1 p.2.2.2.2.1 p.2.2.2.2.2 hp) ?_ (λ_ _ h=>h) (λ_ _ _ h=>h);rintro L' R' ⟨i,j,k,l,m,o,g1,g2,g3,g4⟩;exact⟨(i,j,k,l,m,o),⟨g1,g2⟩,g3,g4⟩
theorem IK {s t u v x y z:Type} {Q:fP} (Lx:s->t->u->v->x->y->z->Env) (Rx:s->t->u->v->x->y->z->List Row) (J:s->t->u->v->x->y->z->Prop) (μ:s->t->u->v->x->y->z->Nat)
  (A: ∃a b d e f g i,J a b d e f g i/\Sub (Lx a b d e f g i) L/\ ∀w,Hp B w0 w R->Hp B w0 w (Rx a b d e f g i))
  (round: ∀a b d e f g i,J a b d e f g i->W P n B w0 c {Q with nrm:=λL' R'=> ∃j k l m o q r,J j k l m o q r/\μ j k l m o q r<μ a b d e f g i/\Sub (Lx j k l m o q r) L'/\ ∀w,Hp B w0 w R'->Hp B w0 w (Rx j k l m o q r)} (Lx a b d e f g i) (Rx a b d e f g i)):W P n B w0 (.loop c) Q L R:=by
 obtain⟨a,b,d,e,f,g,i,h1,C,D⟩:=A;refine oK (σ:=s × t × u × v × x × y × z) (λp=>Lx p.1 p.2.1 p.2.2.1 p.2.2.2.1 p.2.2.2.2.1 p.2.2.2.2.2.1 p.2.2.2.2.2.2) (λp=>Rx p.1 p.2.1 p.2.2.1 p.2.2.2.1 p.2.2.2.2.1 p.2.2.2.2.2.1 p.2.2.2.2.2.2) (λp=>J p.1 p.2.1 p.2.2.1 p.2.2.2.1 p.2.2.2.2.1 p.2.2.2.2.2.1 p.2.2.2.2.2.2) (λp=>μ p.1 p.2.1 p.2.2.1 p.2.2.2.1 p.2.2.2.2.1 p.2.2.2.2.2.1 p.2.2.2.2.2.2) ⟨(a,b,d,e,f,g,i),h1,C,D⟩ λp hp=>iP (round p.1 p.2.1 p.2.2.1 p.2.2.2.1 p.2.2.2.2.1 p.2.2.2.2.2.1 p.2.2.2.2.2.2 hp) ?_ (λ_ _ h=>h) (λ_ _ _ h=>h);rintro L' R' ⟨j,k,l,m,o,q,r,g1,g2,g3,g4⟩;exact⟨(j,k,l,m,o,q,r),⟨g1,g2⟩,g3,g4⟩
theorem lS {Q:fP} (L1:Env) (R1:List Row)
  (b:W P n B w0 x {Q with nrm:=λL' R'=>Sub L1 L'/\ ∀w,Hp B w0 w R'->Hp B w0 w R1} L R) (d:W P n B w0 y Q L1 R1):W P n B w0 (.seq x y) Q L R:=
 aA (iP b (λ_ _ ⟨a,hR⟩=>aPw a hR d) (λ_ _ h=>h) (λ_ _ _ h=>h))
theorem gN {Q:fP} {R1:List Row} (hR: ∀w,Hp B w0 w R->Hp B w0 w R1) (h:Q.ret L R1):W P n B w0 .ret Q L R:=aPw (Sub.refl L) hR (aS h)
def pickT (is:List Nat) (m:Nat) (R:List Row):List Row:=is.filterMap (λi=>R[i]?)++R.drop m
theorem Hp.pickT {B:Nat} {w0 w:World} (h:Hp B w0 w R) (is:List Nat) (m:Nat) (hn:is.Nodup) (hR:is.map (λi=>(R.take m)[i]?)=(is.filterMap (λi=>R[i]?)).map some):Hp B w0 w (pickT is m R):=by
 rw[<-ed m R] at h;have hp:=kv.1 h.apart;have g:Hp B w0 w (R.take m):=⟨h.below,h.base,λr d=>h.own r (ek.2 (.inl d)),hp.1,h.late⟩;have e:=g.sel is hn hR
 have mem: ∀q∈is.filterMap (λi=>R[i]?),q∈R.take m:=by
  intro q k;have h1:some q∈(is.filterMap (λi=>R[i]?)).map some:=gq.2 ⟨q,k,rfl⟩;rw[<-hR] at h1;obtain⟨i,_,hi⟩:=gq.1 h1;exact gy hi
 refine⟨h.below,h.base,λr d=> ?_,kv.2 ⟨e.apart,hp.2.1,λa j b hb=>hp.2.2 a (mem a j) b hb⟩,h.late⟩;rcases ek.1 d with d|d
 ·exact e.own r d
 exact h.own r (ek.2 (.inr d))
theorem Ct.pick {P:Program} {B:Nat} {w0:World} {Post:Value->List Row->Prop} (is:List Nat) (m:Nat) (hn:is.Nodup) (hR:is.map (λi=>(R.take m)[i]?)=(is.filterMap (λi=>R[i]?)).map some) (h:Ct P f args B w0 (pickT is m R) Post):Ct P f args B w0 R Post:=
 Ct.sub (λ_ a=>a.pickT is m hn hR) h
theorem Ct.quiet {Q:Value->Prop} (h: ∀w,Hp B w0 w R->Ct P f args w.heap.size w [] (λv _=>Q v)):Ct P f args B w0 R (λv R'=>R'=R/\Q v):=
 λw a=>(h w a w (Hp.refl w)).mono λ_ _ ⟨v,_,b,d,e⟩=>⟨v,R,b,(a.join d).right,rfl,e⟩
theorem Sub.to {L1:Env} {t:Nat} {v u:Value} (h:lk L t=some v) (e:v=u) (hs:Sub L1 L):Sub ((t,u)::L1) L:=e▸Sub.cons h hs
end
variable {L:Env} {R:List Row} {ty:TypeId}
section
variable {l m p q:AH} {x y:Operand}
def aI (l:AH):Prop:= ∀x∈l,0<=x/\x<256
theorem aI.rd (h:aI l) (i:Int):0<=rd l i/\rd l i<256:=by
 unfold Eng.rd;rcases gm i.toNat l.length with h1|h1
 ·rw [af,au h1];exact h _ (mg h1)
 rw [af,nu h1];simp
theorem aI.take (h:aI l) (k:Nat):aI (l.take k):=λx a=>h x (ku a)
theorem aI.drop (h:aI l) (k:Nat):aI (l.drop k):=λx a=>h x (lu a)
theorem aI.append (h:aI l) (a:aI m):aI (l++m):=λx b=>(ek.1 b).elim (h x) (a x)
theorem aI.nil:aI []:=λ_ h=>by cases h
theorem JC (hl:aI l) (a:aI m):((strOfNums l).toList==(strOfNums m).toList)=decide (l=m):=by
 have key: ∀l:AH,aI l->((strOfNums l).toList.map λb=>(b.toNat:Int))=l:=by
  intro l hl
  have e:(strOfNums l).toList=l.map λx=>UInt8.ofNat x.toNat:=by
   rw[ByteArray.toList_eq];rfl
  rw[e,qp]
  conv=>rhs;rw[<-Ki l]
  refine vg λx d=> ?_;obtain⟨g,h1⟩:=hl x d;simp only[Function.comp,id];rw[Dh (by simp[UInt8.size];omega)];omega
 by_cases h:l=m
 ·subst h;simp
 have:(strOfNums l).toList≠(strOfNums m).toList:=λe=>h (by rw[<-key l hl,<-key m a,e]);simp[h,this]
theorem gL {s e d:TypeId} {A:AF} {m c:Nat} (ge:P.underlying s=some (.slice e)) (k:P.underlying e=some (.int .u8)) (i:P.underlying d=some .string) (C:ev L x=some (.slice A m c)) (u:RdC B w0 R A m c 1 (ints .u8 l)):
  Yl P n B w0 (.convert s d x) ty L R (.string (strOfNums l)):=by
 intro a w o r _ hs hp;have io:=u w hp;have hl:=io.len;rw[dB,qy] at hl
 have hc:(convert s d (.slice A m c)).run P w= .ok (.string (strOfNums l)) w:=by
  rcases A with _|g
  ·have p:l=[]:=by
    cases l with
    |nil=>rfl
    |cons y l'=>obtain⟨_,h,_⟩:=io.at_ 0 (.int .u8 y) (by simp[ints]);cases h
   subst p;exact run_convert_bytes_nil w s e ge k m c d i
  have b:(loadCells g m).run P w= .ok (l.map (Value.int .u8)).toArray w:=by
   have:=run_loadCells_list (P:=P) w g (l.map (Value.int .u8)) (λj v q=>by
    obtain⟨H,F,D⟩:=io.at_ j v q;obtain rfl:=fo F
    exact D)
   simpa [hl] using this
  rw[run_convert_bytes_string w s d e _ m c ge k i,run_bytesToString w _ m c l b,foldl_push_bytes];simp[strOfNums,ByteArray.empty,ByteArray.emptyWithCapacity];rfl
 simp[execOp,r,hs.ev C,hc]
theorem bUp {t u:TypeId} {p q:ByteArray} (d:ev L x=some (.string p)) (e:ev L y=some (.string q)):Yl P n B w0 (.binOp .eql t x y u) ty L R (.bool (p.toList==q.toList)):=by
 intro a w o b _ hs _;simp[execOp,b,binOp,eqGuard,hs.ev d,hs.ev e,Op.stringOp]
theorem YK {t u:TypeId} (b:ev L x=some (.string (strOfNums p))) (d:ev L y=some (.string (strOfNums q))) (hp:aI p) (a:aI q):Yl P n B w0 (.binOp .eql t x y u) ty L R (.bool (decide (p=q))):=by
 have:=bUp (P:=P) (n:=n) (B:=B) (w0:=w0) (R:=R) (ty:=ty) (t:=t) (u:=u) b d;rwa[JC hp a] at this
theorem NM {t u:TypeId} (g:ev L x=some (.string (strOfNums p))) (i:ev L y=some (.string (strOfNums q))) (hp:aI p) (e:aI q):Yl P n B w0 (.binOp .neq t x y u) ty L R (.bool (decide (p≠q))):=by
 intro a w o d _ hs _;have h:=JC hp e;have b:(!decide (p=q))=decide (p≠q):=cD
 simp only[execOp,d,binOp,eqGuard,hs.ev g,hs.ev i,Op.stringOp,h,b];simp
theorem aEk {t e:TypeId} {r:Row} {g:Nat} (i:Nat) (hi:R[i]? =some r) (M:r.ro=false) (F:P.underlying t=some (.slice e)) (y:P.underlying e=some (.int .u8)) (b:r.A=some ⟨g,0,none⟩) (J:ev L x=some (.slice r.A r.n r.c)):
  Ac P n B w0 (.convert t t x) ty L R (λv R'=>v= .slice r.A r.n r.c/\R'=R.set i {r with ro:=true}):=by
 intro a w o K Q C _ hs hp hk;have m:=Row.lies_w (hp.own r (gy hi)) M;rcases m.2 with⟨hn,_⟩|⟨S,cap,cur,ge,hb,j,d,O,T,p⟩
 ·rw[b] at hn;cases hn
 rw [b] at ge;simp only[ko,jl,Br,Az,Al] at ge;obtain⟨rfl,rfl⟩:=ge
 have l:(w.freeze ⟨g,cur.size,none⟩ 1).heap[g]? =some (.cells cur r.e (cur.size,cur.size+1)):=by
  have ci:g<w.heap.size:=(gu.1 j).1;have H:w.heap[g]= .cells cur r.e (0,0):=(gu.1 j).2;simp[World.freeze,ci,Array.getElem_modify,H]
 have h: ∀k,k≠g->(w.freeze ⟨g,cur.size,none⟩ 1).heap[k]? =w.heap[k]? :=by
  intro k hk;simp[World.freeze,ww,Ik hk]
 have D:(convert t t (.slice r.A r.n r.c)).run P w= .ok (.slice r.A r.n r.c) (w.freeze ⟨g,cur.size,none⟩ 1):=by
  rw[b];simp only[convert,jq,pu F,jw,pu y,beq_self_eq_true];simp[markStringish,shape,Sem.run,World.shape?,j,freeze]
 unfold Oper.wp;simp only[execOp,C,hs.ev J,jq,D,jw,qg,Oper.upon];refine hk _ _ _ ?_ ⟨rfl,rfl⟩;refine hp.upd hi (row:=some g) ⟨by simp[World.freeze],by simp[World.freeze],by simp[World.freeze],by simp[World.freeze],λk _ u=>h k (λe=>u (by rw[e]))⟩ (by simp[World.freeze]) (λk hk=>⟨_,b,by simpa using hk⟩) ?_ (λq N=> .inl ⟨q,N,rfl⟩);unfold Row.lies;exact⟨g,cur,_,b,hb,l,pq d O,d,m.1,p⟩
end
end
end Go.Eng
namespace Go.Eng
open Go Go.RowKit
section
variable {l:AH} {i:Int}
def upd (l:AH) (i v:Int):AH:=l.set i.toNat v
theorem vT (k:IntKind) (l m:AH):ints k (l++m)=ints k l++ints k m:=by simp[ints]
theorem bEt (k:IntKind) (l:AH) (i v:Int):(ints k l).set i.toNat (.int k v)=ints k (upd l i v):=by simp[ints,upd,List.map_set]
theorem aW (l:AH) (i v:Int):(upd l i v).length=l.length:=by simp[upd]
theorem iQ {j v:Int} (hi:0<=i) (a:0<=j) (h:i<l.length):rd (upd l i v) j=if j=i then v else rd l j:=by
 unfold rd upd;rw[af,af,xx];by_cases e:j=i
 ·subst e;have:j.toNat<l.length:=G
  simp[this]
 have: ¬i.toNat=j.toNat:=G
 simp[e,this]
theorem TZ {m:AH} (a:0<=i) (h:i<l.length):rd (l++m) i=rd l i:=by
 unfold rd;rw[af,af,jh G]
theorem XV {x:Int} (h:i=l.length):rd (l++[x]) i=x:=by
 subst h;simp[rd]
theorem KC (k:IntKind) (l:AH): ∀u∈ints k l,u.oneCell'=true:=by
 intro u hu;obtain⟨x,_,rfl⟩:=gq.1 hu;rfl
end
section
variable {P:Program} {n:Nd} {B:Nat} {w0:World} {L:Env} {R:List Row} {ty:TypeId}
section
variable {x y:Operand} {A:AF} {m c bytes len:Nat} {k:IntKind} {l:AH} {op:Op} {v z:Value} {ops:Array Oper} {K:Env->List Row->Prop} {ps:List (Nat × Operand)}
theorem TT (k:IntKind):RdC B w0 R none 0 0 1 (ints k []):=λ_ _=>⟨rfl,G,G,λj v a=>by simp[ints] at a⟩
theorem bJ {t e:TypeId} {j v:Int} (i:Nat) (hi:R[i]? =some ⟨e,1,A,m,c,ints k l,false⟩) (h:(P.info? t).map (·.size)=some 1) (r:ev L x=some (.pointer (pat A j.toNat))) (u:ev L y=some (.int k v)) (D:0<=j:=by omega) (h1:j<m:=by omega):
  Ac P n B w0 (.store t x y) ty L R (λ_ R'=>R'=R.set i ⟨e,1,A,m,c,ints k (upd l j v),false⟩):=by
 intro a w o K Q q d hs hp hk;have C:=Row.lies_w (hp.own _ (gy hi)) rfl;have io:=Row.rd (hp.own _ (gy hi));have hl:=io.len
 obtain⟨g,p⟩: ∃g,A=some ⟨g,0,none⟩:=by
  rcases C.2 with⟨_,hn⟩|⟨g,cap,cur,b,_⟩
  ·simp only at hn;omega
  simp only[ko] at b;exact⟨g,b.1⟩
 have:=aEj (P:=P) (n:=n) (B:=B) (w0:=w0) (ty:=ty) i hi rfl p h r rfl u rfl rfl (by rw[hl];simp only;omega);simp only[bEt] at this;exact this a w o K Q q d hs hp hk
theorem aO {s:Operand} {t e:TypeId} {p c2:Nat} {A2:AF} {news:AH} (i:Nat) (hi:R[i]? =some ⟨e,1,A,p,c,ints k l,false⟩) (d:P.underlying t=some (.slice e)) (b:(P.info? e).map (λi=>(i.zero,i.size,i.bytes))=some (some (.int k 0),1,bytes)) (j:Nat.blt 0 bytes=true)
  (hs:ev L s=some (.slice A p c)) (g:ev L x=some (.slice A2 m c2)) (io:RdC B w0 R A2 m c2 1 (ints k news)) (h:(p+m)*bytes<=140737488355328:=by omega):
  Ac P n B w0 (.call {callee:= .builtin .append,args:= #[s,x],argTypes:= #[t,t]}) ty L R (λv R'=> ∃a c',v= .slice a (p+m) c'/\R'=R.set i ⟨e,1,a,p+m,c',ints k (l++news),false⟩):=by
 have:=fO (P:=P) (n:=n) (B:=B) (w0:=w0) (ty:=ty) i hi rfl d b rfl rfl j hs g io (KC k news) h;simp only[<-vT] at this;exact this
theorem bBs (k:IntKind) (m:Nat) (x:Int):List.replicate m (Value.int k x)=ints k (List.replicate m x):=by simp[ints]
theorem dU {t e:TypeId} {m:Int} (j:P.underlying t=some (.slice e)) (b:(P.info? e).map (λi=>(i.zero,i.size,i.bytes))=some (some (.int k 0),1,bytes))
  (l:ev L x=some (.int .i64 m)) (o:ev L y=some (.int .i64 m)) (d:0<=m:=by omega) (h:m*bytes<=281474976710656:=by omega) (a:m<=9223372036854775807:=by omega):
  Ac P n B w0 (.makeSlice t x y) ty L R (λv R'=> ∃g,v= .slice (some ⟨g,0,none⟩) m.toNat m.toNat/\R'=⟨e,1,some ⟨g,0,none⟩,m.toNat,m.toNat,ints k (List.replicate m.toNat 0),false⟩::R):=by
 have:=aTi (P:=P) (n:=n) (B:=B) (w0:=w0) (L:=L) (R:=R) (ty:=ty) j b rfl l o d h a;simpa only[bBs] using this
theorem Yl.t {p:Prop} [Decidable p] (a:Yl P n B w0 op ty L R (.bool (decide p))) (h:p):Yl P n B w0 op ty L R (.bool true):=by rwa[nz h] at a
theorem Yl.f {p:Prop} [Decidable p] (a:Yl P n B w0 op ty L R (.bool (decide p))) (h: ¬p:=by omega):Yl P n B w0 op ty L R (.bool false):=by rwa[mo h] at a
theorem Yl.is {u:Value} (a:Yl P n B w0 op ty L R v) (h:v=u):Yl P n B w0 op ty L R u:=h▸a
theorem rO {l:List Oper} (d:Nat) {p:Prop} [Decidable p] (h:lk L d=some (.bool (decide p))) (hp:p) (hn:WR P n B w0 ops l K ((d, .bool true)::L) R):WR P n B w0 ops l K L R:=
 gZ (tT (by rw[h,nz hp])) (λ_ h=>h) hn
theorem pW {l:List Oper} (d:Nat) {p:Prop} [Decidable p] (h:lk L d=some (.bool (decide p))) (hp: ¬p) (hn:WR P n B w0 ops l K ((d, .bool false)::L) R):WR P n B w0 ops l K L R:=
 gZ (tT (by rw[h,mo hp])) (λ_ h=>h) hn
theorem nR {ops:Array Oper} {l2:List Oper} {Q:Exit->Act->World->Prop}: ∀(l1:List Oper) (a:Act) (w:World),wpList P ops (λe a w=>match e with| .normal=>wpList P ops Q l2 a w|e=>Q e a w) l1 a w->wpList P ops Q (l1++l2) a w
 |[],a,w,h=>h
 | o ::l1,a,w,h=>by
  simp only[je];unfold wpList at h ⊢;split
  ·rename_i d;rw[cz d] at h;rcases h with h|⟨h1,g⟩
   ·left;unfold Oper.wp at h ⊢;generalize (execOp a.eval o).run P w=r at*;cases r with
    | ok n w'=>
     cases n<;>simp only[Oper.upon] at h ⊢ <;>first
      |exact nR l1 _ _ h
      |exact Calls.mono h (λe i b=>by cases e<;>first|exact nR l1 _ _ b|exact b)
      |exact Rows.mono h (λ_ _ b=>nR l1 _ _ b)
    |halt x w'=>cases x<;>simp only[Oper.upon] at h ⊢ <;>exact h
   exact .inr ⟨h1,g⟩
  rename_i d;rw[bq d] at h;exact nR l1 _ _ h
theorem wJ {l:List Oper} (k:Nat) (L1:Env) (R1:List Row) (h1:WR P n B w0 ops (l.take k) (λL' R'=>Sub L1 L'/\ ∀w,Hp B w0 w R'->Hp B w0 w R1) L R) (e:WR P n B w0 ops (l.drop k) K L1 R1):WR P n B w0 ops l K L R:=by
 intro a w Q hs hp h;rw[<-ed k l];refine nR _ a w (h1 a w _ hs hp λb w' L' R' ge d ⟨g,hR⟩=> ?_);exact e b w' Q (ge.sub g) (hR w' d) h
theorem bZx {p:Prop} [Decidable p] (h:p):Value.bool true=Value.bool (decide p):=by rw[nz h]
theorem bZy {p:Prop} [Decidable p] (h: ¬p):Value.bool false=Value.bool (decide p):=by rw[mo h]
theorem mb {p q:Prop} [Decidable p] [Decidable q] (h:p↔q):Value.bool (decide p)=Value.bool (decide q):=by rw[sw.2 h]
def enu:Nat->AG->List (Nat × Value)
 |_,[]=>[]
 |k,v::vs=>(k,v)::enu (k+1) vs
theorem cells_one (h:v.oneCell'=true):v.cells= #[v]:=by cases v<;>first|rfl|(simp[Value.oneCell'] at h)
theorem aIo: ∀(vs pre post:AG),vs.all (·.oneCell')=true->vs.length=post.length->Instr.fill (λi=>some (i*1,1)) (pre++post).toArray (enu pre.length vs)=some (pre++vs).toArray
 |[],pre,post,_,hl=>by
  have:post=[]:=di (by simpa using hl.symm);subst this;simp[enu,Instr.fill]
 | v::vs,pre,post,h1,hl=>by
  cases post with
  |nil=>simp at hl
  | cons q post=>
   simp only[Fx,lv] at h1;have hc:=cells_one h1.1;have a:=aIo vs (pre++[v]) post h1.2 (by simpa using hl);simp only[aa,dw] at a;simp only[enu,Instr.fill,qy];rw[hc];have hn: ¬((#[v]:Array Value).size≠1\/pre.length+(#[v]:Array Value).size>(pre++q::post).toArray.size):=cD
   simp only[hn,Bn,wo,xq]
   have e:((#[v]:Array Value).zipIdx.foldl (λcs x=>cs.setIfInBounds (pre.length+x.2) x.1) (pre++q::post).toArray)=(pre++[v]++post).toArray:=by
    simp
   simp only[qy,dx,je,ig] at a;simp only[e,dx,je,ig];exact a
theorem jD {t e:TypeId} (vals:AG) (h:P.underlying t=some (.slice e)) (d:(P.info? e).map (λi=>(i.zero,i.size))=some (some z,1)) (j:evp L ps=some (enu 0 vals))
  (h1:vals.all (·.oneCell')=true) (hl:vals.length=len) (b:Nat.ble len 16777216=true):
  Ac P n B w0 (.buildSlice t len ps.toArray) ty L R (λv R'=> ∃g,v= .slice (some ⟨g,0,none⟩) len len/\R'=⟨e,1,some ⟨g,0,none⟩,len,len,vals,false⟩::R):=by
 have a:=aIo vals [] (((Array.range (len*1)).map ((bif Nat.beq (len*1) 0 then #[] else z.cells)[· %(bif Nat.beq (len*1) 0 then #[] else z.cells).size]!)).toList) h1 (by simp[hl]);simp only[iw,ig,Af] at a;have:=tH (P:=P) (n:=n) (B:=B) (w0:=w0) (L:=L) (R:=R) (ty:=ty) (len:=len) h d j (by rw[qy];exact b) b a (by simp[hl]);simpa using this
theorem bG {t e:TypeId} (k:IntKind) (l:AH) (b:P.underlying t=some (.slice e)) (a:(P.info? e).map (λi=>(i.zero,i.size))=some (some z,1)) (d:evp L ps=some (enu 0 (ints k l)))
  (hl:l.length=len) (h:Nat.ble len 16777216=true):
  Ac P n B w0 (.buildSlice t len ps.toArray) ty L R (λv R'=> ∃g,v= .slice (some ⟨g,0,none⟩) len len/\R'=⟨e,1,some ⟨g,0,none⟩,len,len,ints k l,false⟩::R):=
 jD (ints k l) b a d (by rw[sj];exact KC k l) (by rw[dB,hl]) h
theorem Rd.lenI {w:World} (h:Rd w A m c 1 (ints k l)):m=l.length:=by
 have:=h.len;rw[dB] at this;omega
end
end
end Go.Eng
namespace Go.Eng
open Go
section
section
variable {R R1:List Row} {m:Nat} {is:List Nat}
def iI (R:List Row) (m:Nat) (R1:List Row):Prop:=R.drop m=R1
theorem iI.n (h:R=[]):iI R m []:=by rw[h];exact List.drop_nil
theorem iI.z:iI R 0 R:=rfl
theorem iI.s {R':List Row} {q:Row} (h:R=q::R') (g:iI R' m R1):iI R (m+1) R1:=by rw[h];exact g
def mU (R:List Row) (is:List Nat) (m:Nat) (R1:List Row):Prop:= ∃F,R1=F++R.drop m/\F.map some=is.map (λi=>R[i]?)
theorem mU.n (h:iI R m R1):mU R [] m R1:=⟨[],by rw[<-show R.drop m=R1 from h];rfl,rfl⟩
theorem mU.c {r:Row} {i:Nat} (g:R[i]? =some r) (h:mU R is m R1):mU R (i::is) m (r::R1):=by
 obtain⟨F,e,a⟩:=h;exact⟨r::F,by rw[e];rfl,by rw[jg,jg,a,g]⟩
def okS (is:List Nat) (m:Nat):Bool:=decide is.Nodup && is.all (λi=>decide (i<m))
theorem Hp.selC {B:Nat} {w0 w:World} (h:Hp B w0 w R) (s:mU R is m R1) (g:okS is m=true):Hp B w0 w R1:=by
 simp only[okS,lv,wo,sj] at g;obtain⟨F,rfl,b⟩:=s
 have d: ∀(is:List Nat) (F:List Row),F.map some=is.map (λi=>R[i]?)->is.filterMap (λi=>R[i]?)=F:=by
  intro is
  induction is with
  |nil=>intro F b;cases F with
   |nil=>rfl
   |cons a F=>simp at b
  | cons i is ih=>intro F b;cases F with
   |nil=>simp at b
   |cons a F=>
    simp only[jg,Dk] at b;rw[List.filterMap_cons,<-b.1,ih F b.2]
 have d:=d is F b
 have e:is.map (λi=>(R.take m)[i]?)=(is.filterMap (λi=>R[i]?)).map some:=by
  rw[d,b];exact vg λi hi=>qx (g.2 i hi)
 have j:=h.pickT is m g.1 e;rw[Eng.pickT,d] at j;exact j
end
variable {P:Program} {n:Nd} {B:Nat} {w0:World}
section
variable {R R1:List Row} {L:Env} {ops:Array Oper} {l:List Oper} {K:Env->List Row->Prop}
theorem Ct.pk {f:FuncId} {args:Array Value} {Post:Value->List Row->Prop} (is:List Nat) (m:Nat) (s:mU R is m R1:=by repeat' first|apply mU.c rfl|exact mU.n (iI.n rfl)|exact mU.n iI.z|apply mU.n|exact iI.n rfl|exact iI.z|apply iI.s rfl) (h:Ct P f args B w0 R1 Post) (a:okS is m=true:=by decide):Ct P f args B w0 R Post:=
 Ct.sub (λ_ b=>b.selC s a) h
theorem aL {Q:fP} (is:List Nat) (m:Nat) (h:Q.ret L R1) (s:mU R is m R1:=by repeat' first|apply mU.c rfl|exact mU.n (iI.n rfl)|exact mU.n iI.z|apply mU.n|exact iI.n rfl|exact iI.z|apply iI.s rfl) (a:okS is m=true:=by decide):W P n B w0 .ret Q L R:=gN (λ_ b=>b.selC s a) h
theorem NN (is:List Nat) (m:Nat) (h:WR P n B w0 ops l K L R1) (s:mU R is m R1:=by repeat' first|apply mU.c rfl|exact mU.n (iI.n rfl)|exact mU.n iI.z|apply mU.n|exact iI.n rfl|exact iI.z|apply iI.s rfl) (a:okS is m=true:=by decide):WR P n B w0 ops l K L R:=
 gZ (Sub.refl _) (λ_ b=>b.selC s a) h
theorem bUu {c:Code} {Q:fP} (is:List Nat) (m:Nat) (h:W P n B w0 c Q L R1) (s:mU R is m R1:=by repeat' first|apply mU.c rfl|exact mU.n (iI.n rfl)|exact mU.n iI.z|apply mU.n|exact iI.n rfl|exact iI.z|apply iI.s rfl) (a:okS is m=true:=by decide):W P n B w0 c Q L R:=
 aPw (Sub.refl _) (λ_ b=>b.selC s a) h
theorem dX (r:Row) (h:WR P n B w0 ops l K L (r::R)) (a:r=⟨r.e,r.sz,none,0,0,[],false⟩:=by exact rfl):WR P n B w0 ops l K L R:=
 gZ (Sub.refl _) (λ_ b=>a▸b.nil r.e r.sz) h
end
end
end Go.Eng
namespace Go.Eng
open Go Go.RowKit
section
variable {P:Program} {n:Nd} {B:Nat} {w0:World} {ops:Array Oper} {l:List Oper} {K:Env->List Row->Prop} {L:Env} {R:List Row} {op:Op} {ty:TypeId} {pos:String} {na:Array Edge} {d:Nat}
section
variable {v:Value} {Post:Value->List Row->Prop} {x y:Operand} {p q:Int} {k:IntKind} {bh j e:Nat} {ab:AI} {want:Bool} {L1:Env}
theorem wy (a:Yl P n B w0 op ty L R v) (h:WR P n B w0 ops l K ((d,v)::L) R) (hn:Nat.blt d n=true:=by exact rfl):WR P n B w0 ops ({dst:=some d,op:=op,type:=ty,pos:=pos,after:=na,guard:=none}::l) K L R:=RB hn a h
theorem wa (a:Ac P n B w0 op ty L R Post) (h: ∀v R',Post v R'->WR P n B w0 ops l K ((d,v)::L) R') (hn:Nat.blt d n=true:=by exact rfl):WR P n B w0 ops ({dst:=some d,op:=op,type:=ty,pos:=pos,after:=na,guard:=none}::l) K L R:=aFb hn a h
theorem wm (a:ev L x=some v) (h:WR P n B w0 ops l K ((d,v)::L) R) (hn:Nat.blt d n=true:=by exact rfl):WR P n B w0 ops ({dst:=some d,op:= .move x,type:=ty,pos:=pos,after:=na,guard:=none}::l) K L R:=RB hn (dI a) h
theorem wg (a:ev L x=some v) (h:WR P n B w0 ops l K ((d,v)::L) R) (hn:Nat.blt d n=true:=by exact rfl):WR P n B w0 ops ({dst:=some d,op:= .assign x,type:=ty,pos:=pos,after:=na,guard:=none}::l) K L R:=RB hn (bY a) h
theorem wA {t u:TypeId} (a:ev L x=some (.int .i64 p)) (b:ev L y=some (.int .i64 q)) (h:WR P n B w0 ops l K ((d, .int .i64 (p+q))::L) R) (hn:Nat.blt d n=true:=by exact rfl) (hb: -9223372036854775808<=p+q/\p+q<=9223372036854775807:=by omega):WR P n B w0 ops ({dst:=some d,op:= .binOp .add t x y u,type:=ty,pos:=pos,after:=na,guard:=none}::l) K L R:=RB hn (dJ a b hb) h
theorem wS {t u:TypeId} (a:ev L x=some (.int .i64 p)) (b:ev L y=some (.int .i64 q)) (h:WR P n B w0 ops l K ((d, .int .i64 (p-q))::L) R) (hn:Nat.blt d n=true:=by exact rfl) (hb: -9223372036854775808<=p-q/\p-q<=9223372036854775807:=by omega):WR P n B w0 ops ({dst:=some d,op:= .binOp .sub t x y u,type:=ty,pos:=pos,after:=na,guard:=none}::l) K L R:=RB hn (oH a b hb) h
theorem wL {t u:TypeId} (a:ev L x=some (.int k p)) (b:ev L y=some (.int k q)) (h:WR P n B w0 ops l K ((d, .bool (decide (p<q)))::L) R) (hn:Nat.blt d n=true:=by exact rfl):WR P n B w0 ops ({dst:=some d,op:= .binOp .lss t x y u,type:=ty,pos:=pos,after:=na,guard:=none}::l) K L R:=RB hn (fD a b) h
theorem wQ {t u:TypeId} (a:ev L x=some (.int k p)) (b:ev L y=some (.int k q)) (h:WR P n B w0 ops l K ((d, .bool false)::L) R) (hn:Nat.blt d n=true:=by exact rfl) (hb: ¬p=q:=by decide):WR P n B w0 ops ({dst:=some d,op:= .binOp .eql t x y u,type:=ty,pos:=pos,after:=na,guard:=none}::l) K L R:=RB hn (Yl.f (pU a b) hb) h
theorem wR {t u:TypeId} (a:ev L x=some (.int k p)) (b:ev L y=some (.int k q)) (h:WR P n B w0 ops l K ((d, .bool true)::L) R) (hn:Nat.blt d n=true:=by exact rfl) (hb:p=q:=by decide):WR P n B w0 ops ({dst:=some d,op:= .binOp .eql t x y u,type:=ty,pos:=pos,after:=na,guard:=none}::l) K L R:=RB hn (Yl.t (pU a b) hb) h
theorem wX {i:Nat} {vs:Array Value} (b:ev L x=some (.tuple vs)) (a:vs[i]? =some v) (h:WR P n B w0 ops l K ((d,v)::L) R) (hn:Nat.blt d n=true:=by exact rfl):WR P n B w0 ops ({dst:=some d,op:= .extract x i,type:=ty,pos:=pos,after:=na,guard:=none}::l) K L R:=RB hn (YJ b a) h
theorem wD (i:Nat) (hi:ops[i]? =some {dst:=some d,op:=op,type:=ty,pos:=pos,after:=na,guard:=none}) (a:Yl P n B w0 op ty L R v) (h:WD P n B w0 ops K bh (ab.setIfInBounds i true) ((d,v)::L) R) (hc:chk ops ab i=true:=by kernel_rfl) (hn:Nat.blt d n=true:=by exact rfl):WD P n B w0 ops K (bh+1) ab L R:=bUt i hi hc hn a h
theorem wq {id:Nat} {l:List Oper} {y:Code} {Q:fP} (h:WR P n B w0 l.toArray l (λL R=>W P n B w0 y Q L R) L R) (a:qF n.rd l=true:=by exact rfl):W P n B w0 (.seq (.region id l.toArray false) y) Q L R:=aA (bK h a)
theorem mbA {p q:Prop} [Decidable p] [Decidable q] (h:p↔q:=by first|omega|exact⟨λh=>⟨cF,h⟩,λh=>h.2⟩|exact .inl cF|exact⟨.inr,λh=>h.resolve_left cF⟩|exact⟨λh=>h.resolve_left cF, .inr⟩|exact λh=>absurd h.1 cF|simp[*]):Value.bool (decide p)=Value.bool (decide q):=mb h
theorem mfA {p:Prop} [Decidable p] (h: ¬p:=by first|omega|exact⟨λh=>⟨cF,h⟩,λh=>h.2⟩|exact .inl cF|exact⟨.inr,λh=>h.resolve_left cF⟩|exact⟨λh=>h.resolve_left cF, .inr⟩|exact λh=>absurd h.1 cF|simp[*]):Value.bool false=Value.bool (decide p):=bZy h
theorem mtA {p:Prop} [Decidable p] (h:p:=by first|omega|exact⟨λh=>⟨cF,h⟩,λh=>h.2⟩|exact .inl cF|exact⟨.inr,λh=>h.resolve_left cF⟩|exact⟨λh=>h.resolve_left cF, .inr⟩|exact λh=>absurd h.1 cF|simp[*]):Value.bool true=Value.bool (decide p):=bZx h
theorem wG (i:Nat) (hi:ops[i]? =some {dst:=some d,op:=op,type:=ty,pos:=pos,after:=na,guard:=some (j,want)}) (a:(ops[j]?).bind (·.dst)=some e) (hb:lk L e=some (.bool want)) (b:Yl P n B w0 op ty L R v) (h:WD P n B w0 ops K bh (ab.setIfInBounds i true) ((d,v)::L) R) (hc:chk ops ab i=true:=by kernel_rfl) (hn:Nat.blt d n=true:=by exact rfl):WD P n B w0 ops K (bh+1) ab L R:=bOq i hi hc hn a hb b h
theorem wO {b:Bool} (i:Nat) (hi:ops[i]? =some {dst:=some d,op:=op,type:=ty,pos:=pos,after:=na,guard:=some (j,want)}) (g:(ops[j]?).bind (·.dst)=some e) (hb:lk L e=some (.bool b)) (h:WD P n B w0 ops K bh (ab.setIfInBounds i true) ((d,undef)::L) R) (hc:chk ops ab i=true:=by kernel_rfl) (hn:Nat.blt d n=true:=by exact rfl) (a:(b==want)=false:=by exact rfl):WD P n B w0 ops K (bh+1) ab L R:=bOr i hi hc hn g hb a h
theorem wC (i:Nat) (hi:ops[i]? =some {dst:=some d,op:=op,type:=ty,pos:=pos,after:=na,guard:=none}) (a:Ac P n B w0 op ty L R Post) (h: ∀v R',Post v R'->(XA ops ab i=true\/ ∀w,Hp B w0 w R'->Hp B w0 w R)/\WD P n B w0 ops K bh (ab.setIfInBounds i true) ((d,v)::L) R') (b:Region.ready .any ops ab=[i]:=by kernel_rfl) (hn:Nat.blt d n=true:=by exact rfl):WD P n B w0 ops K (bh+1) ab L R:=bZt i hi b hn a h
theorem wN (h:K L R) (a:Region.ready .any ops ab=[]:=by kernel_rfl):WD P n B w0 ops K bh ab L R:=bRe a h
theorem wn (a:ev L x=some v) (h:K ((d,v)::L) R) (hn:Nat.blt d n=true:=by exact rfl):WR P n B w0 ops ({dst:=some d,op:= .assign x,type:=ty,pos:=pos,after:=na,guard:=none}::[]) K L R:=wg a (aJ h) hn
theorem sc {L:Env} {t:Nat} (h:lk L t=some v) (hs:Sub L1 L):Sub ((t,v)::L1) L:=Sub.cons h hs
theorem SA {L:Env} (h:Sub L1 L:=by repeat' first|exact Sub.nil|refine sc rfl ?_|refine Sub.to rfl mbA ?_|refine Sub.to rfl mfA ?_|refine Sub.to rfl mtA ?_):Sub L1 L:=h
theorem KP {L:Env} {R1 R:List Row} (h:Sub L1 L:=by repeat' first|exact Sub.nil|refine sc rfl ?_|refine Sub.to rfl mbA ?_|refine Sub.to rfl mfA ?_|refine Sub.to rfl mtA ?_) (e:R=R1:=by exact rfl):Sub L1 L/\ ∀w,Hp B w0 w R->Hp B w0 w R1:=⟨h,λ_ a=>e▸a⟩
theorem hiZ: ∀w,Hp B w0 w R->Hp B w0 w R:=λ_ h=>h
theorem hrZ {r:Row}: ∀w,Hp B w0 w (r::R)->Hp B w0 w R:=λ_ h=>h.tail
abbrev CT:= @Ct Go.Proofs.Tryz.prog
abbrev CF (f:FuncId) (a:Array Value) (w:World) (Q:Value->List Row->Prop):Prop:=Ct Go.Proofs.Tryz.prog f a w.heap.size w [] Q
abbrev I (x:Int):Value:= .int .i64 x
abbrev GG (g:Nat):AF:=some ⟨g,0,none⟩
abbrev PG (g:Nat):Value:= .pointer (GG g)
abbrev sl (A:AF) (m c:Nat):Value:= .slice A m c
abbrev bt:Value:= .bool true
abbrev bf:Value:= .bool false
abbrev rc (e s g:Nat) (l:AG):Row:=⟨e,s,some ⟨g,0,none⟩,1,1,l,false⟩
abbrev ri (e:TypeId) (A:AF) (m c:Nat) (l:AH):Row:=⟨e,1,A,m,c,ints .i64 l,false⟩
abbrev ru (e:TypeId) (A:AF) (m c:Nat) (l:AH):Row:=⟨e,1,A,m,c,ints .u8 l,false⟩
end
end
abbrev R4 (w:World) (A:Option Addr) (m c:Nat) (l:List Int):Prop:=Rd w A m c 1 (ints .u8 l)
abbrev R5 (w:World) (A:Option Addr) (m c:Nat) (l:List Int):Prop:=Rd w A m c 1 (ints .i64 l)
abbrev R6 (B:Nat) (w:World) (R:List Row) (A:Option Addr) (m c:Nat) (l:List Int):Prop:=RdC B w R A m c 1 (ints .u8 l)
end Go.Eng
namespace Go.Eng
open Go Go.RowKit
section
variable {w:World}
theorem aQx (k:IntKind):Rd w none ([]:AH).length 0 1 (ints k []):=⟨rfl,cD,cD,λj v a=>by simp[ints] at a⟩
theorem bKs {k:IntKind} {x:Addr} {len cap:Nat} {zs:AH} (hl:len<=cap) (g:cap<=maxLen) (o:zs.length=cap) (m: ∀i,i<zs.length->w.cell? (x.add i)=some (.int k (zs.getD i 0))) (d: ∀n∈zs,(Lit.int k n).wf=true):
  ∃l:AH,len=l.length/\Rd w (some x) l.length cap 1 (ints k l)/\ ∀n∈l,(Lit.int k n).wf=true:=by
 unfold maxLen at g;have hlen:(zs.take len).length=len:=by rw[ax];omega
 refine⟨zs.take len,hlen.symm,⟨by rw[dB];omega,G,G,λj v b=>⟨x,rfl,?_⟩⟩,λn hn=>d n (ku hn)⟩
 have e:j<len:=by
  rcases gm j len with h|h
  ·exact h
  rw[nu (by rw[dB];omega)] at b;cases b
 rw[m j G];have a:j<zs.length:=G
 simp[ints,e,au a] at b;subst b;simp[af,au a]
theorem byteL_wf {l:AH} (h: ∀x∈l,(Lit.int .u8 x).wf=true):aI l:=λx a=>by
 have:=h x a;have:=bounds_u8 this;omega
theorem wf_u8 {x:Int} (h:(Lit.int .u8 x).wf=true):0<=x/\x<256:=by have:=bounds_u8 h;omega
end
end Go.Eng
namespace Go.Eng
open Go
section
variable {P:Program} {n:Nd} {B:Nat} {w0:World} {L:Env} {R:List Row} {ty:TypeId}
section
variable {w:World} {r:Row} {g j:Nat} {v:Value}
theorem LQ (g j:Nat):(⟨g,0,none⟩:Addr).add j=⟨g,j,none⟩:=by unfold Addr.add;split<;>simp_all
theorem Hp.cellAt (h:Hp B w0 w R) (i:Nat) (hi:R[i]? =some r) (d:r.A=some ⟨g,0,none⟩) (e:r.xs[j]? =some v):w.cell? ⟨g,j,none⟩=some v:=by
 obtain⟨a,b,hc⟩:=(Row.rd (h.own r (gy hi))).cell e;rw[d] at b;simp only[pat,lh,jl] at b;rw[LQ] at b;rw[b];exact hc
theorem Hp.openAt (h:Hp B w0 w R) (i:Nat) (j:Nat) (hi:R[i]? =some r) (e:r.ro=false) (a:r.A=some ⟨g,0,none⟩):w.frozen? ⟨g,j,none⟩=false:=by
 have d:=Row.lies_w (h.own r (gy hi)) e;rcases d.2 with⟨hn,_⟩|⟨k,cap,cur,hs,hb,b,_⟩
 ·rw[a] at hn;cases hn
 rw [a] at hs;simp only[ko,jl,Br,Az,Al] at hs;obtain⟨rfl,rfl⟩:=hs;unfold World.frozen?;simp[b]
theorem aFo {α:Type} (l:List α) (j k:Nat) (v:α):(l.set j v).take k=(l.take k).set j v:=by
 apply vk;intro i;simp only[qi,xx,ax];by_cases h1:i<k
 ·by_cases a:j=i
  ·subst a;have e:(j<min k l.length)=(j<l.length):=by rw[eq_iff_iff];omega
   simp[h1,e]
  simp[h1,a]
 by_cases a:j=i
 ·subst a;have e: ¬j<min k l.length:=G
  simp[h1,e]
 simp[h1,a]
theorem Hp.set1 (h:Hp B w0 w R) (i:Nat) (hi:R[i]? =some r) (m:r.ro=false) (a:r.A=some ⟨g,0,none⟩):Hp B w0 (w.setCell ⟨g,j,none⟩ v) (R.set i {r with xs:=r.xs.set j v}):=by
 have l:=Row.lies_w (h.own r (gy hi)) m;rcases l.2 with⟨hn,_⟩|⟨D,cap,cur,hs,hb,d,b,C,x,u⟩
 ·rw[a] at hn;cases hn
 rw [a] at hs;simp only[ko,jl,Br,Az,Al] at hs;obtain⟨rfl,rfl⟩:=hs;have ci:g<w.heap.size:=(gu.1 d).1;have o:w.heap[g]= .cells cur r.e (0,0):=(gu.1 d).2
 have q:(w.setCell ⟨g,j,none⟩ v).heap[g]? =some (.cells (cur.setIfInBounds j v) r.e (0,0)):=by
  simp[World.setCell,ci,Array.getElem_modify,o]
 refine h.upd hi (row:=some g) ⟨rfl,rfl,rfl,by simp[World.setCell],λk _ hk=> ?_⟩ (dn _) (λk hk=> ?_) ?_ (λp y=> .inl ⟨p,y,rfl⟩)
 ·have: ¬g=k:=λe=>hk (by simp[e]);simp[World.setCell,ww,this]
 ·obtain rfl:=fo hk;exact⟨_,a,rfl⟩
 unfold Row.lies;simp only[m];refine⟨by simpa using l.1, .inr ⟨g,r.c,_,by rw[a],hb,q,b,C,by simpa using x,?_⟩⟩;rw[Array.toList_setIfInBounds,aFo,u]
theorem aTj {f:FuncId} {Nk:List Operand} {ts:Array TypeId} {vs:AG} {R1:List Row} (e:evs L Nk=some vs) (hc: ∀w,Hp B w0 w R-> ∃w',(callFunc f vs.toArray).run P w= .ok (.value v) w'/\Hp B w0 w' R1):
  Ac P n B w0 (.call {callee:= .value (.func f),args:=Nk.toArray,argTypes:=ts}) ty L R (λu R'=>u=v/\R'=R1):=by
 intro a w o K Q h _ hs hp hk;have d:=hs.evs e;obtain⟨w',i,b⟩:=hc w hp;have g:ev L (.func f)=some (.func (.func f) #[] #[]):=rfl;unfold Oper.wp;simp only[execOp,h,resolve,hs.ev g,Deferred.ofValue,invoke,jq,qg,jw,uu,d,uz,ig,ik,i,Oper.upon];exact hk _ _ _ b ⟨rfl,rfl⟩
end
end
def bv (x:BitVec 32):Int:=(x.toNat:Int)
theorem IE (m:Nat) (h:m<4294967296):IntKind.u32.wrap (m:Int)=m:=by
 rw[IntKind.wrap_u32];omega
theorem uR (x:BitVec 32):BitVec.ofInt 32 (bv x)=x:=by
 apply BitVec.eq_of_toNat_eq;unfold bv;have:=x.isLt;simp
theorem bTu {x y:BitVec 32} (h:bv x=bv y):x=y:=by
 have:=bi (BitVec.ofInt 32) h;rwa[uR,uR] at this
theorem bJa (p:Int):IntKind.u32.wrap p=bv (BitVec.ofInt 32 p):=by
 rw[IntKind.wrap_u32];unfold bv;rw[zq];omega
section
variable {P:Program} {n:Nd} {B:Nat} {w0:World} {L:Env} {R:List Row} {ty:TypeId}
section
variable {x y:Operand} {p q:BitVec 32} {j k m g:Nat} {r:Row} {v:Value}
theorem bKf (p q:BitVec 32) (w:World):(Op.intBits .and .u32 (bv p) (bv q)).run P w= .ok (.int .u32 (bv (p &&& q))) w:=by
 show Result.ok (Value.int .u32 (IntKind.u32.wrap ((BitVec.ofInt 32 (bv p) &&& BitVec.ofInt 32 (bv q)).toNat:Int))) w=_;rw[uR,uR,IE _ (BitVec.isLt _)];rfl
theorem aQp (p q:BitVec 32) (w:World):(Op.intBits .xor .u32 (bv p) (bv q)).run P w= .ok (.int .u32 (bv (p^^^q))) w:=by
 show Result.ok (Value.int .u32 (IntKind.u32.wrap ((BitVec.ofInt 32 (bv p)^^^BitVec.ofInt 32 (bv q)).toNat:Int))) w=_;rw[uR,uR,IE _ (BitVec.isLt _)];rfl
theorem bAm (p q:Int) (w:World):(Op.intBits .xor .u8 p q).run P w= .ok (.int .u8 ((BitVec.ofInt 8 p^^^BitVec.ofInt 8 q).toNat:Int)) w:=by
 show Result.ok (Value.int .u8 (IntKind.u8.wrap ((BitVec.ofInt 8 p^^^BitVec.ofInt 8 q).toNat:Int))) w=_
 have a:IntKind.u8.wrap ((BitVec.ofInt 8 p^^^BitVec.ofInt 8 q).toNat:Int)=((BitVec.ofInt 8 p^^^BitVec.ofInt 8 q).toNat:Int):=by
  rw[Dj];have:=(BitVec.ofInt 8 p^^^BitVec.ofInt 8 q).isLt;omega
 rw[a]
theorem bKc (p:BitVec 32) (j:IntKind) (k:Nat) (hk:k<=32) (w:World):(Op.shift .shr .u32 (bv p) j (k:Int)).run P w= .ok (.int .u32 (bv (p>>>k))) w:=by
 have hn: ¬((k:Int)<0):=G
 have b:min (k:Int).toNat (IntKind.bits .u32)=k:=by
  have:IntKind.bits .u32=32:=rfl;omega
 have a:Int.fdiv (bv p) (2^k)=bv (p>>>k):=by
  unfold bv;rw[BitVec.toNat_ushiftRight,Nat.shiftRight_eq_div_pow,Cf _ (by exact wz G)];simp
 unfold Op.shift;rw[bq hn];simp only[b,qg];rw[a]
theorem aKw {t u:TypeId} (d:ev L x=some (.int .u32 (bv p))) (e:ev L y=some (.int .u32 (bv q))):Yl P n B w0 (.binOp .and t x y u) ty L R (.int .u32 (bv (p &&& q))):=by
 intro a w o b _ hs _;simp[execOp,b,binOp,eqGuard,hs.ev d,hs.ev e,bKf]
theorem LY {t u:TypeId} (d:ev L x=some (.int .u32 (bv p))) (e:ev L y=some (.int .u32 (bv q))):Yl P n B w0 (.binOp .xor t x y u) ty L R (.int .u32 (bv (p^^^q))):=by
 intro a w o b _ hs _;simp[execOp,b,binOp,eqGuard,hs.ev d,hs.ev e,aQp]
theorem RA {t u:TypeId} {j:IntKind} (d:ev L x=some (.int .u32 (bv p))) (e:ev L y=some (.int j (k:Int))) (hk:Nat.ble k 32=true):Yl P n B w0 (.binOp .shr t x y u) ty L R (.int .u32 (bv (p>>>k))):=by
 intro a w o b _ hs _;simp[execOp,b,binOp,eqGuard,hs.ev d,hs.ev e,bKc p j k (ah hk)]
theorem bQt {t:TypeId} (e:ev L x=some (.int .u32 (bv p))):Yl P n B w0 (.unOp .xor t x) ty L R (.int .u32 (bv (4294967295#32^^^p))):=by
 intro a w o d _ hs _;have b:(if IntKind.u32.signed=true then(-1:Int) else IntKind.u32.max)=bv 4294967295#32:=rfl;simp[execOp,d,hs.ev e,Op.unary,b,aQp]
theorem aCb {s d:TypeId} {j:IntKind} {p:Int} {e:TypeDesc} (ge:P.underlying s=some e) (a:P.underlying d=some (.int .u32)) (b:ev L x=some (.int j p)):Yl P n B w0 (.convert s d x) ty L R (.int .u32 (bv (BitVec.ofInt 32 p))):=by
 have:=pV (P:=P) (n:=n) (B:=B) (w0:=w0) (R:=R) (ty:=ty) ge a b;rwa[bJa] at this
theorem bOo {t u:TypeId} (a:ev L x=some (.int .u32 (bv p))) (b:ev L y=some (.int .u32 (bv q))):Yl P n B w0 (.binOp .eql t x y u) ty L R (.bool (decide (p=q))):=by
 have:=pU (P:=P) (n:=n) (B:=B) (w0:=w0) (R:=R) (ty:=ty) (t:=t) (u:=u) a b
 have e:(decide (bv p=bv q))=decide (p=q):=by
  rw[sw];exact⟨bTu,λh=>by rw[h]⟩
 rwa[e] at this
theorem bQq {t u:TypeId} {p q:Int} (d:ev L x=some (.int .u8 p)) (e:ev L y=some (.int .u8 q)):Yl P n B w0 (.binOp .xor t x y u) ty L R (.int .u8 ((BitVec.ofInt 8 p^^^BitVec.ofInt 8 q).toNat:Int)):=by
 intro a w o b _ hs _;simp only[execOp,b,binOp,eqGuard,hs.ev d,hs.ev e];simp[bAm]
theorem bAs (p:Int) (m:Nat) (a:m<9223372036854775808) (w:World):(Op.intBits .and .i64 p (m:Int)).run P w= .ok (.int .i64 ((BitVec.ofInt 64 p &&& BitVec.ofNat 64 m).toNat:Int)) w:=by
 show Result.ok (Value.int .i64 (IntKind.i64.wrap ((BitVec.ofInt 64 p &&& BitVec.ofInt 64 (m:Int)).toNat:Int))) w=_;have e:BitVec.ofInt 64 (m:Int)=BitVec.ofNat 64 m:=rfl
 have b:(BitVec.ofInt 64 p &&& BitVec.ofNat 64 m).toNat<=m:=by
  rw[Jj,BitVec.toNat_ofNat,lm G];exact Nat.and_le_right
 rw[e,CZ G]
theorem bQw {t u:TypeId} {p:Int} (e:ev L x=some (.int .i64 p)) (g:ev L y=some (.int .i64 (m:Int))) (b:Nat.blt m 9223372036854775808=true:=by rfl):Yl P n B w0 (.binOp .and t x y u) ty L R (.int .i64 ((BitVec.ofInt 64 p &&& BitVec.ofNat 64 m).toNat:Int)):=by
 intro a w o d _ hs _;simp[execOp,d,binOp,eqGuard,hs.ev e,hs.ev g,bAs p m (Nat.lt_of_lt_of_le (Nat.lt_succ_self m) (ah b))]
theorem aCk (k:Nat) (t d:TypeId) (p:AF) (a:P.underlying t=some (.pointer d)) (w:World):(Op.equalIn (k+1) t (.pointer p) (.pointer none)).run P w= .ok p.isNone w:=by
 cases p<;>simp[Op.equalIn,pu a,samePointer]
theorem SV (t d:TypeId) (p:AF) (a:P.underlying t=some (.pointer d)) (w:World):(Op.equal t (.pointer p) (.pointer none)).run P w= .ok p.isNone w:=by
 exact aCk 9999 t d p a w
theorem YI {t h:TypeId} {b:Array Field} {st off:Nat} (hu:P.underlying t=some (.struct b)) (o:(b[k]?).map (λf=>(f.offset,f.type))=some (off,h)) (l:(P.info? h).map (·.size)=some st) (i:Nat.blt 0 st=true) (q:ev L x=some (.pointer (some ⟨g,j,none⟩))) (p:j+off=m):
  Yl P n B w0 (.fieldAddr t x k) ty L R (.pointer (some ⟨g,m,none⟩)):=by
 obtain⟨f,a,d⟩:=ii.1 o;simp only[uk] at d;obtain⟨rfl,rfl⟩:=d;have:=aFa (P:=P) (n:=n) (B:=B) (w0:=w0) (R:=R) (ty:=ty) hu a l i q
 have e:(⟨g,j,none⟩:Addr).add f.offset=⟨g,m,none⟩:=by
  rw[<-p];unfold Addr.add;split<;>simp_all
 rwa[e] at this
theorem YH {ix:Operand} {t e:TypeId} {k:IntKind} {N:Nat} {i:Int} (q:Nat) (h:R[q]? =some r) (d:r.A=some ⟨g,0,none⟩) (j:P.underlying t=some (.array N e)) (hi:(P.info? e).map (·.size)=some 1) (l:ev L x=some (.pointer (some ⟨g,m,none⟩))) (o:ev L ix=some (.int k i)) (ci:m<r.xs.length) (b:0<=i) (h1:i<N):
  Yl P n B w0 (.indexAddr t x ix) ty L R (.pointer (some ⟨g,m+i.toNat,none⟩)):=by
 have a:(some ⟨g,m,none⟩:AF)=pat (some ⟨g,0,none⟩) m:=by
  simp only[pat,lh,LQ]
 have:=FY (P:=P) (n:=n) (B:=B) (w0:=w0) (ty:=ty) j hi l a o (d▸rdR q h) ci b h1;rw[qy] at this;simpa only[pat,lh,LQ] using this
theorem bQu {t:TypeId} {d:TypeDesc} (q:Nat) (h:R[q]? =some r) (b:r.A=some ⟨g,0,none⟩) (hu:P.underlying t=some d) (e:LP d=false) (k:ev L x=some (.pointer (some ⟨g,j,none⟩))) (i:r.xs[j]? =some v):
  Yl P n B w0 (.load t x) ty L R v:=by
 have a:(some ⟨g,j,none⟩:AF)=pat (some ⟨g,0,none⟩) j:=by
  simp only[pat,lh,LQ]
 exact kS hu e k a (b▸rdR q h) i
theorem aV {t:TypeId} (q:Nat) (e:R[q]? =some r) (l:r.ro=false) (a:r.A=some ⟨g,0,none⟩) (b:(P.info? t).map (·.size)=some 1) (i:ev L x=some (.pointer (some ⟨g,j,none⟩))) (k:ev L y=some v) (h:v.cells.toList=[v]) (h1:v.oneCell'=true) (d:j<r.xs.length):
  Ac P n B w0 (.store t x y) ty L R (λ_ R'=>R'=R.set q {r with xs:=r.xs.set j v}):=
 aEj q e l a b i (by simp only[pat,a,lh,LQ]) k h h1 d
theorem aZa {t:TypeId} (h: ∀w,(Instr.build t #[]).run P w= .ok v w):Yl P n B w0 (.build t #[]) ty L R v:=by
 intro a w o b _ hs _;simp[execOp,b,h]
theorem UJ {b r1:Row}: ∀ {R:List Row} {i:Nat},R[i]? =some b->(r1::R.eraseIdx i).Perm (R.set i r1)
 |[],i,h=>by simp at h
 |q::R,0,_=> .refl _
 |q::R,i+1,h=>by
  have a:(r1::R.eraseIdx i).Perm (R.set i r1):=UJ (by simpa using h);exact(List.Perm.swap q r1 _).trans (a.cons q)
theorem Ct.at {f:FuncId} {args:Array Value} {a r1:Row} {V:Value} (i:Nat) (hi:R[i]? =some a) (h:Ct P f args B w0 (a::R.eraseIdx i) (λv R'=>v=V/\R'=r1::R.eraseIdx i)):Ct P f args B w0 R (λv R'=>v=V/\R'=R.set i r1):=by
 intro w g
 have b:Hp B w0 w (a::R.eraseIdx i):=by
  have hp:=UJ (r1:=a) hi;have ci:i<R.length:=(gp.1 hi).1
  have e:R.set i a=R:=by
   rw[<-(gp.1 hi).2];exact List.set_getElem_self ci
  rw[e] at hp;exact g.perm hp.symm
 refine(h w b).mono ?_;rintro e w' ⟨v,R',rfl,d,rfl,rfl⟩;exact⟨_,_,rfl,d.perm (UJ hi),rfl,rfl⟩
theorem kT {t u d:TypeId} {p:AF} (e:P.underlying t=some (.pointer d)) (g:ev L x=some (.pointer p)) (h:ev L y=some (.pointer none)):Yl P n B w0 (.binOp .eql t x y u) ty L R (.bool p.isNone):=by
 intro a w o b _ hs _;simp[execOp,b,binOp,eqGuard,hs.ev g,hs.ev h,SV t d p e]
theorem bIy {t u d:TypeId} {p:AF} (e:P.underlying t=some (.pointer d)) (g:ev L x=some (.pointer p)) (h:ev L y=some (.pointer none)):Yl P n B w0 (.binOp .neq t x y u) ty L R (.bool (!p.isNone)):=by
 intro a w o b _ hs _;simp[execOp,b,binOp,eqGuard,hs.ev g,hs.ev h,SV t d p e]
end
end
end Go.Eng
namespace Go.Eng
open Go Go.RowKit
def rdl (ls:AD) (i:Int):AH:=ls.getD i.toNat []
theorem bBz {ls:AD} {i:Int} (a:0<=i) (h:i<ls.length):ls.drop i.toNat=rdl ls i::ls.drop (i+1).toNat:=by
 have hl:i.toNat<ls.length:=G
 have e:(i+1).toNat=i.toNat+1:=G
 rw[e,nk hl];simp[rdl,af,au hl]
theorem bKq {ls:AD} {i:Int} (a:0<=i) (h:i<ls.length):rdl ls i∈ls:=by
 have hl:i.toNat<ls.length:=G
 simp[rdl,af,au hl]
def SlW (k:IntKind) (w:World) (vals:AG) (ls:AD):Prop:=vals.length=ls.length/\ ∀j:Nat,j<ls.length-> ∃(A:AF) (c:Nat),vals[j]? =some (Value.slice A (ls.getD j []).length c)/\Rd w A (ls.getD j []).length c 1 (ints k (ls.getD j []))/\(∀x∈ls.getD j [],(Lit.int k x).wf=true)/\(ls.getD j []).length<=140737488355327
theorem SlW.at {k:IntKind} {w:World} {vals:AG} {ls:AD} (h:SlW k w vals ls) {i:Int} (a:0<=i) (h1:i<ls.length): ∃(A:AF) (c:Nat),vals[i.toNat]? =some (Value.slice A (rdl ls i).length c)/\Rd w A (rdl ls i).length c 1 (ints k (rdl ls i))/\(∀x∈rdl ls i,(Lit.int k x).wf=true)/\(rdl ls i).length<=140737488355327:=
 h.2 i.toNat G
theorem SlW.c {k:IntKind} {w w':World} {R:List Row} {vals:AG} {ls:AD} (h:SlW k w vals ls) (e:Hp w.heap.size w w' R):SlW k w' vals ls:=
 ⟨h.1,λj d=>by
  obtain⟨A,c,h1,a,b⟩:=h.2 j d
  exact⟨A,c,h1,a.below e.below,b⟩⟩
theorem gI (k:IntKind) (w:World):SlW k w [] []:=⟨rfl,λj a=>by simp at a⟩
theorem zS {H:Type} {P:Program} {t:TypeId}: ∀ {ds:List (DataW H)} {d:DataW H},d∈ds-> ∀n∈d.weights P t,n∈DataW.weightsAll P t ds
 |[],_,h,_,_=>by cases h
 |d'::ds,d,hd,n,hn=>by
  simp only[DataW.weightsAll,ek];rcases il.1 hd with rfl|h
  ·exact .inl hn
  exact .inr (zS h n hn)
theorem aUj {H:Type} {P:Program} {ts:List TypeId} {ds:List (DataW H)} (h:(DataW.weightsEach P ts ds).all (· <=reachBytes)=true) {j:Nat} {t e q:TypeId} {k:IntKind} {len:Nat} {A:Nat->AF} {L:Nat->Nat} {Z:Nat->AH} {spare:List (DataW H)}
  (m:ts[j]? =some t) (g:ds[j]? =some (.slice ((List.range len).map λr=>Go.Deep.intRow k (A r) (L r) (Z r)) spare)) (hu:P.underlying t=some (.slice e)) (b:P.underlying e=some (.slice q)) (hb:Nat.ble 1 (P.bytesOf q)=true) {r:Nat} (l:r<len) (u:L r<=(Z r).length) (hn:A r=none->(Z r).length=0):L r<=140737488355327:=by
 cases hA:A r with
 |none=>have:=hn hA;omega
 | some a=>
  have i:(DataW.slice (Go.ChangeShapes.lits k ((Z r).take (L r))) (Go.ChangeShapes.lits k ((Z r).drop (L r))):DataW H)∈(List.range len).map λr=>Go.Deep.intRow k (A r) (L r) (Z r):=by
   refine gq.2 ⟨r,jr.2 l,?_⟩;simp[Go.Deep.intRow,hA]
  have o:=wu (sj.1 h _ (DataW.weights_mem_each m g (((Go.ChangeShapes.lits k ((Z r).take (L r)):List (DataW H)).length+(Go.ChangeShapes.lits k ((Z r).drop (L r)):List (DataW H)).length)*P.bytesOf q) (by
   simp only[DataW.weights,hu,il,ek]
   exact Or.inr (Or.inl (zS i _ (by simp[DataW.weights,b]))))))
  have d:=ah hb;have p:=reachBytes_lt
  have hl:(Go.ChangeShapes.lits k ((Z r).take (L r)):List (DataW H)).length=L r:=by
   simp[Go.ChangeShapes.lits];omega
  rw[hl] at o;have:L r*1<=(L r+(Go.ChangeShapes.lits k ((Z r).drop (L r)):List (DataW H)).length)*P.bytesOf q:=Nat.mul_le_mul G d;omega
theorem bAk {k:IntKind} {W:World} {a:Addr} {base len cap:Nat} {A:Nat->AF} {L C:Nat->Nat} {Z:Nat->AH} (hl:len<=cap) (D:cap<=maxLen)
  (h: ∀r,r<cap->W.cell? (a.add r)=some (.slice (A r) (L r) (C r))/\L r<=C r/\C r<=maxLen/\(Z r).length=C r/\(∀n∈Z r,(Lit.int k n).wf=true)/\(A r=none->C r=0)/\ ∀b,A r=some b->base<=b.block/\ ∀c,c<C r->W.cell? (b.add c)=some (.int k ((Z r).getD c 0))) (hs: ∀r,r<len->L r<=140737488355327):
  ∃(vals:AG) (ls:AD),len=ls.length/\Rd W (some a) ls.length cap 1 vals/\SlW k W vals ls:=by
 unfold maxLen at D;refine⟨(List.range len).map λr=> .slice (A r) (L r) (C r),(List.range len).map λr=>(Z r).take (L r),cD,⟨cD,cJ,by simpa using hl,λj v o=>⟨a,rfl,?_⟩⟩,cD,λj g=> ?_⟩
 ·rw [mr] at o;obtain⟨r,F,rfl⟩:=ii.1 o;obtain⟨ci,m⟩:=gp.1 F;rw[zu] at m;subst m;rw[zf] at ci;exact(h j G).1
 simp only[bn,zf] at g;obtain⟨h1,p,u,K,w,y,B⟩:=h j G
 have e:((List.range len).map λr=>(Z r).take (L r)).getD j []=(Z j).take (L j):=by
  simp[af,zi g]
 have l:((Z j).take (L j)).length=L j:=by rw[ax];omega
 rw[e,l];unfold maxLen at u;refine⟨A j,C j,?_,⟨by rw[dB,l];omega,G,p,λq v i=> ?_⟩,λx H=>w x (ku H),hs j g⟩
 ·rw [mr,zi g];rfl
 have J:q<L j:=by
  rcases gm q (L j) with h|h
  ·exact h
  rw[nu (by rw[dB,l];omega)] at i;cases i
 cases hA:A j with
 |none=>have:=y hA;omega
 |some b=>
  refine⟨b,rfl,?_⟩;rw[(B b hA).2 q G];have d:q<(Z j).length:=G
  simp[ints,J,au d] at i;subst i;simp[af,au d]
section
variable {P:Program} {n:Nd} {B:Nat} {w0:World} {L:Env} {R:List Row} {ty:TypeId}
theorem aZ {x y:Operand} {t e sz:Nat} {v:Value} {xs vs:AG} {g:Nat} (i:Nat) (hi:R[i]? =some ⟨e,sz,some ⟨g,0,none⟩,1,1,xs,false⟩) (h:(P.info? t).map (·.size)=some sz) (m:ev L x=some (.pointer (some ⟨g,0,none⟩))) (p:ev L y=some v) (l:v.cells.toList=vs) (h1: ∀v∈vs,v.oneCell'=true) (hl:vs.length=sz):
  Ac P n B w0 (.store t x y) ty L R (λ_ R'=>R'=R.set i ⟨e,sz,some ⟨g,0,none⟩,1,1,vs,false⟩):=by
 intro a w o K Q k d hs hp hk
 have b:xs.length=sz:=by
  have:=(Row.rd (hp.own _ (gy hi))).len;simpa using this
 have:=LV (P:=P) (n:=n) (B:=B) (w0:=w0) (ty:=ty) (j:=0) i hi rfl rfl (vs:=vs) (by rw[h,hl]) m (by simp[pat,Addr.add]) p l h1 (by simp only;omega);simp only[yf,ig,oh,hl,<-b,Jk,ik] at this;rw[b] at this;exact this a w o K Q k d hs hp hk
end
section
variable {l:AE} {i:Int}
def prs (l:AE):AG:=l.flatMap λp=>[.int .i64 p.1, .int .i64 p.2]
def rdp (l:AE) (i:Int):Int × Int:=l.getD i.toNat (0,0)
theorem kN: ∀l:AE,(prs l).length=l.length*2
 |[]=>rfl
 |p::l=>by
  have:=kN l;unfold prs at*;rw[Ah,aa,this];simp;omega
theorem UF (l m:AE):prs (l++m)=prs l++prs m:=by simp[prs]
theorem UE: ∀(l:AE) (i:Nat),(prs l).drop (i*2)=prs (l.drop i)
 |l,0=>cD
 |[],i+1=>by simp[prs]
 |p::l,i+1=>by
  have:=UE l i;have e:(i+1)*2=i*2+1+1:=G
  rw[e];show((Value.int .i64 p.1::Value.int .i64 p.2::prs l).drop (i*2+1+1))=_;rw[List.drop_succ_cons,List.drop_succ_cons,this];rfl
theorem bBy (a:0<=i) (h:i<l.length):l.drop i.toNat=rdp l i::l.drop (i+1).toNat:=by
 have hl:i.toNat<l.length:=G
 have e:(i+1).toNat=i.toNat+1:=G
 rw[e,nk hl];simp[rdp,af,au hl]
theorem bSe (a:0<=i) (h:i<l.length):((prs l).drop (i.toNat*2)).take 2=[.int .i64 (rdp l i).1, .int .i64 (rdp l i).2]:=by
 rw[UE,bBy a h];rfl
theorem bLa (l:AE): ∀v∈prs l,v.oneCell'=true:=by
 intro v a;unfold prs at a;obtain⟨p,_,hp⟩:=zo.1 a;simp at hp;rcases hp with rfl|rfl<;>rfl
end
section
variable {P:Program} {n:Nd} {B:Nat} {w0:World} {L:Env} {R:List Row} {ty:TypeId}
section
variable {x:Operand} {A:AF} {m c g j sz h:Nat} {l:AE} {i:Int} {w:World} {xs:AG} {v:Value}
theorem aPv {t:TypeId} {d:TypeDesc} (hu:P.underlying t=some d) (e:LP d=true) (a:(P.info? t).map (·.size)=some 2) (h:ev L x=some (.pointer (pat A (i.toNat*2)))) (g:RdC B w0 R A m c 2 (prs l)) (b:0<=i:=by omega) (h1:i<l.length:=by omega):
  Yl P n B w0 (.load t x) ty L R (.agg #[.int .i64 (rdp l i).1, .int .i64 (rdp l i).2]):=by
 have:=aYz (P:=P) (n:=n) (B:=B) (w0:=w0) (R:=R) (ty:=ty) hu e a h rfl g (by rw[kN];omega) G;rwa[bSe b h1] at this
theorem lH {s:Operand} {t e:TypeId} {z:Value} {bytes p c2:Nat} {A2:AF} {news:AE} (i:Nat) (hi:R[i]? =some ⟨e,2,A,p,c,prs l,false⟩) (d:P.underlying t=some (.slice e)) (b:(P.info? e).map (λi=>(i.zero,i.size,i.bytes))=some (some z,2,bytes)) (h:z.cells.size=2) (k:Nat.blt 0 bytes=true)
  (hs:ev L s=some (.slice A p c)) (g:ev L x=some (.slice A2 m c2)) (io:RdC B w0 R A2 m c2 2 (prs news)) (j:(p+m)*bytes<=140737488355328):
  Ac P n B w0 (.call {callee:= .builtin .append,args:= #[s,x],argTypes:= #[t,t]}) ty L R (λv R'=> ∃a c',v= .slice a (p+m) c'/\R'=R.set i ⟨e,2,a,p+m,c',prs (l++news),false⟩):=by
 have:=fO (P:=P) (n:=n) (B:=B) (w0:=w0) (ty:=ty) i hi rfl d b h rfl k hs g io (bLa news) j;simp only[<-UF] at this;exact this
theorem aEm {t e:TypeId} {a b:Int} (h:P.underlying t=some (.slice e)) (d:(P.info? e).map (λi=>(i.zero,i.size))=some (some (.agg #[.int .i64 0, .int .i64 0]),2)) (k:ev L x=some (.agg #[.int .i64 a, .int .i64 b])):
  Ac P n B w0 (.buildSlice t 1 #[(0,x)]) ty L R (λv R'=> ∃g,v= .slice (some ⟨g,0,none⟩) 1 1/\R'=⟨e,2,some ⟨g,0,none⟩,1,1,prs [(a,b)],false⟩::R):=by
 have j:evp L [(0,x)]=some [(0, .agg #[.int .i64 a, .int .i64 b])]:=by simp[evp,k]
 exact tH (P:=P) (n:=n) (B:=B) (w0:=w0) (L:=L) (R:=R) (ty:=ty) (len:=1) (ps:=[(0,x)]) (cells:= #[.int .i64 a, .int .i64 b]) h d j cC cC cA (by rfl)
theorem bCm (h:Rd w none m c 2 (prs l)):l=[]:=by
 cases l with
 |nil=>rfl
 |cons p l=>
  obtain⟨a,b,_⟩:=h.at_ 0 (.int .i64 p.1) rfl;cases b
theorem Hp.nilP (h:Hp B w0 w R) (e:TypeId):Hp B w0 w (⟨e,2,none,0,0,prs [],false⟩::R):=h.nil e 2
theorem gY {t:TypeId} {d:TypeDesc} (b:RdC B w0 R (some ⟨g,0,none⟩) m c sz xs) (hu:P.underlying t=some d) (a:LP d=false) (h:ev L x=some (.pointer (some ⟨g,j,none⟩))) (e:xs[j]? =some v):Yl P n B w0 (.load t x) ty L R v:=
 kS hu a h (by simp only[pat,lh,LQ]) b e
theorem bO {t:TypeId} {d:TypeDesc} {st:Nat} {vs:AG} (i:RdC B w0 R (some ⟨g,0,none⟩) m c sz xs) (hu:P.underlying t=some d) (e:LP d=true) (b:(P.info? t).map (·.size)=some st) (l:ev L x=some (.pointer (some ⟨g,j,none⟩))) (k:(xs.drop j).take st=vs) (h:j+st<=xs.length) (a:Nat.blt 0 st=true):Yl P n B w0 (.load t x) ty L R (.agg vs.toArray):=by
 have:=aYz (P:=P) (n:=n) (B:=B) (w0:=w0) (ty:=ty) hu e b l (by simp only[pat,lh,LQ]) i h (ah a);rwa[k] at this
theorem dW {ix:Operand} {t e:TypeId} {k:IntKind} {q N:Nat} (h:RdC B w0 R (some ⟨g,0,none⟩) m c sz xs) (l:P.underlying t=some (.array N e)) (hi:(P.info? e).map (·.size)=some 1) (o:ev L x=some (.pointer (some ⟨g,j,none⟩))) (p:ev L ix=some (.int k i)) (ci:j<xs.length) (b:0<=i) (h1:i<N) (d:j+i.toNat=q):
  Yl P n B w0 (.indexAddr t x ix) ty L R (.pointer (some ⟨g,q,none⟩)):=by
 subst d
 have a:(some ⟨g,j,none⟩:AF)=pat (some ⟨g,0,none⟩) j:=by
  simp only[pat,lh,LQ]
 have:=FY (P:=P) (n:=n) (B:=B) (w0:=w0) (ty:=ty) l hi o a p h ci b h1;rw[qy] at this;simpa only[pat,lh,LQ] using this
theorem bV {t:TypeId} {ps:List (Nat × Operand)} {vs:List (Nat × Value)} (e:evp L ps=some vs) (h: ∀w,(Instr.build t vs.toArray).run P w= .ok v w):Yl P n B w0 (.build t ps.toArray) ty L R v:=by
 intro a w o d _ hs _;have b:=hs.evp e;simp[execOp,d,b,h]
theorem bCl (l:AE) (i:Nat):(prs l).take (i*2)=prs (l.take i):=by
 have h:prs l=prs (l.take i)++prs (l.drop i):=by rw[<-UF,ed]
 have hl:=kN (l.take i);rw[ax] at hl;rw[h];by_cases hi:i<=l.length
 ·rw[Bb G,bg G]
 rw[og G,show prs []=[] from rfl,ik,bg G]
theorem RdC.toP (b:RdC B w0 R A m c 2 (prs l)) (a:h<=m):RdC B w0 R A h c 2 (prs (l.take h)):=by
 have:=b.to a;rwa[bCl] at this
theorem RdC.fromP (a:RdC B w0 R A m c 2 (prs l)) (h1:h<=m):RdC B w0 R (lL A h c 2) (m-h) (c-h) 2 (prs (l.drop h)):=by
 intro w b;have hl:=(a w b).len;have:=a.cut h1 (dn m) w b;rw[UE,bg (by rw[kN,az];rw[kN] at hl;omega)] at this;exact this
theorem aGc (k:Nat) (t e:TypeId) (A:AF) (m c:Nat) (a:P.underlying t=some (.slice e)) (w:World):(Op.equalIn (k+1) t (.slice A m c) (.slice none 0 0)).run P w= .ok A.isNone w:=by
 cases A<;>simp[Op.equalIn,pu a]
theorem aUp (t e:TypeId) (A:AF) (m c:Nat) (a:P.underlying t=some (.slice e)) (w:World):(Op.equal t (.slice A m c) (.slice none 0 0)).run P w= .ok A.isNone w:=aGc 9999 t e A m c a w
theorem aPu {y:Operand} {t u e:TypeId} (d:P.underlying t=some (.slice e)) (g:ev L x=some (.slice A m c)) (h:ev L y=some (.slice none 0 0)):Yl P n B w0 (.binOp .eql t x y u) ty L R (.bool A.isNone):=by
 intro a w o b _ hs _;simp[execOp,b,binOp,eqGuard,hs.ev g,hs.ev h,aUp t e A m c d]
theorem aEl {t e:TypeId} (b:P.underlying t=some (.slice e)) (a:(P.info? e).map (λi=>(i.zero,i.size))=some (some (.agg #[.int .i64 0, .int .i64 0]),2)):
  Ac P n B w0 (.buildSlice t 0 #[]) ty L R (λv R'=> ∃g,v= .slice (some ⟨g,0,none⟩) 0 0/\R'=⟨e,2,some ⟨g,0,none⟩,0,0,prs [],false⟩::R):=
 tH (P:=P) (n:=n) (B:=B) (w0:=w0) (L:=L) (R:=R) (ty:=ty) (len:=0) (ps:=[]) (vs:=[]) (cells:= #[]) b a rfl cC cC cA (by rfl)
theorem Hp.selR {F F':List Row} (h:Hp B w0 w (F++R)) (is:List Nat) (hn:is.Nodup) (hR:is.map (λi=>F[i]?)=F'.map some):Hp B w0 w (F'++R):=by
 have hp:=kv.1 h.apart;have e:Hp B w0 w F:=⟨h.below,h.base,λr a=>h.own r (ek.2 (.inl a)),hp.1,h.late⟩;have b:=e.sel is hn hR
 have mem: ∀q∈F',q∈F:=by
  intro q d;have h1:some q∈F'.map some:=gq.2 ⟨q,d,rfl⟩;rw[<-hR] at h1;obtain⟨i,_,hi⟩:=gq.1 h1;exact gy hi
 refine⟨h.below,h.base,λr a=> ?_,kv.2 ⟨b.apart,hp.2.1,λq d r a=>hp.2.2 q (mem q d) r a⟩,h.late⟩;rcases ek.1 a with h1|h1
 ·exact h.own r (ek.2 (.inl (mem r h1)))
 exact h.own r (ek.2 (.inr h1))
end
end
end Go.Eng
namespace Go.Eng
open Go Go.RowKit
section
variable {P:Program} {n:Nd} {B:Nat} {w0:World} {L:Env} {R:List Row} {ty:TypeId}
theorem yF {x:Operand} {t b:TypeId} {a:Array Field} {k st g j:Nat} (off m:Nat) (hu:P.underlying t=some (.struct a)) (e:(P.info? b).map (·.size)=some st) (l:ev L x=some (.pointer (some ⟨g,j,none⟩))) (h:(a[k]?).map (λf=>(f.offset,f.type))=some (off,b):=by exact rfl) (d:Nat.blt 0 st=true:=by exact rfl) (i:j+off=m:=by exact rfl):Yl P n B w0 (.fieldAddr t x k) ty L R (.pointer (some ⟨g,m,none⟩)):=YI hu h e d l i
theorem yL {x:Operand} {t e:TypeId} {d:TypeDesc} {g j m c sz:Nat} {xs:AG} {v:Value} {ro:Bool} (i:Nat) (hu:P.underlying t=some d) (h:ev L x=some (.pointer (some ⟨g,j,none⟩))) (hi:R[i]? =some ⟨e,sz,some ⟨g,0,none⟩,m,c,xs,ro⟩) (b:xs[j]? =some v) (a:LP d=false:=by exact rfl):Yl P n B w0 (.load t x) ty L R v:=gY (rdr i hi) hu a h b
end
end Go.Eng
namespace Go.Eng
open Go Go.RowKit
section
variable {P:Program} {n:Nd} {B:Nat} {w0:World}
section
variable {c:Code} {L:Env} {R:List Row}
theorem sS {u v x y z A C D:Type} {Q:fP} (Lx:u->v->x->y->z->A->C->D->Env) (Rx:u->v->x->y->z->A->C->D->List Row) (J:u->v->x->y->z->A->C->D->Prop) (μ:u->v->x->y->z->A->C->D->Nat)
  (F: ∃a b d e f g i j,J a b d e f g i j/\Sub (Lx a b d e f g i j) L/\ ∀w,Hp B w0 w R->Hp B w0 w (Rx a b d e f g i j))
  (round: ∀a b d e f g i j,J a b d e f g i j->W P n B w0 c {Q with nrm:=λL' R'=> ∃k l m o q r s t,J k l m o q r s t/\μ k l m o q r s t<μ a b d e f g i j/\Sub (Lx k l m o q r s t) L'/\ ∀w,Hp B w0 w R'->Hp B w0 w (Rx k l m o q r s t)} (Lx a b d e f g i j) (Rx a b d e f g i j)):W P n B w0 (.loop c) Q L R:=by
 obtain⟨a,b,d,e,f,g,i,j,h1,H,K⟩:=F;refine oK (σ:=u × v × x × y × z × A × C × D) (λp=>Lx p.1 p.2.1 p.2.2.1 p.2.2.2.1 p.2.2.2.2.1 p.2.2.2.2.2.1 p.2.2.2.2.2.2.1 p.2.2.2.2.2.2.2) (λp=>Rx p.1 p.2.1 p.2.2.1 p.2.2.2.1 p.2.2.2.2.1 p.2.2.2.2.2.1 p.2.2.2.2.2.2.1 p.2.2.2.2.2.2.2) (λp=>J p.1 p.2.1 p.2.2.1 p.2.2.2.1 p.2.2.2.2.1 p.2.2.2.2.2.1 p.2.2.2.2.2.2.1 p.2.2.2.2.2.2.2) (λp=>μ p.1 p.2.1 p.2.2.1 p.2.2.2.1 p.2.2.2.2.1 p.2.2.2.2.2.1 p.2.2.2.2.2.2.1 p.2.2.2.2.2.2.2) ⟨(a,b,d,e,f,g,i,j),h1,H,K⟩ λp hp=>iP (round p.1 p.2.1 p.2.2.1 p.2.2.2.1 p.2.2.2.2.1 p.2.2.2.2.2.1 p.2.2.2.2.2.2.1 p.2.2.2.2.2.2.2 hp) ?_ (λ_ _ h=>h) (λ_ _ _ h=>h);rintro L' R' ⟨k,l,m,o,q,r,s,t,g1,g2,g3,g4⟩;exact⟨(k,l,m,o,q,r,s,t),⟨g1,g2⟩,g3,g4⟩
theorem PV {x y z A C D E F G:Type} {Q:fP} (Lx:x->y->z->A->C->D->E->F->G->Env) (Rx:x->y->z->A->C->D->E->F->G->List Row) (J:x->y->z->A->C->D->E->F->G->Prop) (μ:x->y->z->A->C->D->E->F->G->Nat)
  (H: ∃a b d e f g i j k,J a b d e f g i j k/\Sub (Lx a b d e f g i j k) L/\ ∀w,Hp B w0 w R->Hp B w0 w (Rx a b d e f g i j k))
  (round: ∀a b d e f g i j k,J a b d e f g i j k->W P n B w0 c {Q with nrm:=λL' R'=> ∃l m o q r s t u v,J l m o q r s t u v/\μ l m o q r s t u v<μ a b d e f g i j k/\Sub (Lx l m o q r s t u v) L'/\ ∀w,Hp B w0 w R'->Hp B w0 w (Rx l m o q r s t u v)} (Lx a b d e f g i j k) (Rx a b d e f g i j k)):W P n B w0 (.loop c) Q L R:=by
 obtain⟨a,b,d,e,f,g,i,j,k,h1,K,M⟩:=H;refine oK (σ:=x × y × z × A × C × D × E × F × G) (λp=>Lx p.1 p.2.1 p.2.2.1 p.2.2.2.1 p.2.2.2.2.1 p.2.2.2.2.2.1 p.2.2.2.2.2.2.1 p.2.2.2.2.2.2.2.1 p.2.2.2.2.2.2.2.2) (λp=>Rx p.1 p.2.1 p.2.2.1 p.2.2.2.1 p.2.2.2.2.1 p.2.2.2.2.2.1 p.2.2.2.2.2.2.1 p.2.2.2.2.2.2.2.1 p.2.2.2.2.2.2.2.2) (λp=>J p.1 p.2.1 p.2.2.1 p.2.2.2.1 p.2.2.2.2.1 p.2.2.2.2.2.1 p.2.2.2.2.2.2.1 p.2.2.2.2.2.2.2.1 p.2.2.2.2.2.2.2.2) (λp=>μ p.1 p.2.1 p.2.2.1 p.2.2.2.1 p.2.2.2.2.1 p.2.2.2.2.2.1 p.2.2.2.2.2.2.1 p.2.2.2.2.2.2.2.1 p.2.2.2.2.2.2.2.2) ⟨(a,b,d,e,f,g,i,j,k),h1,K,M⟩ λp hp=>iP (round p.1 p.2.1 p.2.2.1 p.2.2.2.1 p.2.2.2.2.1 p.2.2.2.2.2.1 p.2.2.2.2.2.2.1 p.2.2.2.2.2.2.2.1 p.2.2.2.2.2.2.2.2 hp) ?_ (λ_ _ h=>h) (λ_ _ _ h=>h);rintro L' R' ⟨l,m,o,q,r,s,t,u,v,g1,g2,g3,g4⟩;exact⟨(l,m,o,q,r,s,t,u,v),⟨g1,g2⟩,g3,g4⟩
theorem zU {z A C D E F G H I K:Type} {Q:fP} (Lx:z->A->C->D->E->F->G->H->I->K->Env) (Rx:z->A->C->D->E->F->G->H->I->K->List Row) (J:z->A->C->D->E->F->G->H->I->K->Prop) (μ:z->A->C->D->E->F->G->H->I->K->Nat)
  (M: ∃a b d e f g i j k l,J a b d e f g i j k l/\Sub (Lx a b d e f g i j k l) L/\ ∀w,Hp B w0 w R->Hp B w0 w (Rx a b d e f g i j k l))
  (round: ∀a b d e f g i j k l,J a b d e f g i j k l->W P n B w0 c {Q with nrm:=λL' R'=> ∃m o q r s t u v x y,J m o q r s t u v x y/\μ m o q r s t u v x y<μ a b d e f g i j k l/\Sub (Lx m o q r s t u v x y) L'/\ ∀w,Hp B w0 w R'->Hp B w0 w (Rx m o q r s t u v x y)} (Lx a b d e f g i j k l) (Rx a b d e f g i j k l)):W P n B w0 (.loop c) Q L R:=by
 obtain⟨a,b,d,e,f,g,i,j,k,l,h1,N,O⟩:=M;refine oK (σ:=z × A × C × D × E × F × G × H × I × K) (λp=>Lx p.1 p.2.1 p.2.2.1 p.2.2.2.1 p.2.2.2.2.1 p.2.2.2.2.2.1 p.2.2.2.2.2.2.1 p.2.2.2.2.2.2.2.1 p.2.2.2.2.2.2.2.2.1 p.2.2.2.2.2.2.2.2.2) (λp=>Rx p.1 p.2.1 p.2.2.1 p.2.2.2.1 p.2.2.2.2.1 p.2.2.2.2.2.1 p.2.2.2.2.2.2.1 p.2.2.2.2.2.2.2.1 p.2.2.2.2.2.2.2.2.1 p.2.2.2.2.2.2.2.2.2) (λp=>J p.1 p.2.1 p.2.2.1 p.2.2.2.1 p.2.2.2.2.1 p.2.2.2.2.2.1 p.2.2.2.2.2.2.1 p.2.2.2.2.2.2.2.1 p.2.2.2.2.2.2.2.2.1 p.2.2.2.2.2.2.2.2.2) (λp=>μ p.1 p.2.1 p.2.2.1 p.2.2.2.1 p.2.2.2.2.1 p.2.2.2.2.2.1 p.2.2.2.2.2.2.1 p.2.2.2.2.2.2.2.1 p.2.2.2.2.2.2.2.2.1 p.2.2.2.2.2.2.2.2.2) ⟨(a,b,d,e,f,g,i,j,k,l),h1,N,O⟩ λp hp=>iP (round p.1 p.2.1 p.2.2.1 p.2.2.2.1 p.2.2.2.2.1 p.2.2.2.2.2.1 p.2.2.2.2.2.2.1 p.2.2.2.2.2.2.2.1 p.2.2.2.2.2.2.2.2.1 p.2.2.2.2.2.2.2.2.2 hp) ?_ (λ_ _ h=>h) (λ_ _ _ h=>h);rintro L' R' ⟨m,o,q,r,s,t,u,v,x,y,g1,g2,g3,g4⟩;exact⟨(m,o,q,r,s,t,u,v,x,y),⟨g1,g2⟩,g3,g4⟩
theorem aZl {z A D E F G H I K M C:Type} {Q:fP} (Lx:z->A->D->E->F->G->H->I->K->M->C->Env) (Rx:z->A->D->E->F->G->H->I->K->M->C->List Row) (J:z->A->D->E->F->G->H->I->K->M->C->Prop) (μ:z->A->D->E->F->G->H->I->K->M->C->Nat)
  (S: ∃a b d e f g i j k l N,J a b d e f g i j k l N/\Sub (Lx a b d e f g i j k l N) L/\ ∀w,Hp B w0 w R->Hp B w0 w (Rx a b d e f g i j k l N))
  (round: ∀a b d e f g i j k l N,J a b d e f g i j k l N->W P n B w0 c {Q with nrm:=λL' R'=> ∃m o q r s t u v x y O,J m o q r s t u v x y O/\μ m o q r s t u v x y O<μ a b d e f g i j k l N/\Sub (Lx m o q r s t u v x y O) L'/\ ∀w,Hp B w0 w R'->Hp B w0 w (Rx m o q r s t u v x y O)} (Lx a b d e f g i j k l N) (Rx a b d e f g i j k l N)):W P n B w0 (.loop c) Q L R:=by
 obtain⟨a,b,d,e,f,g,i,j,k,l,N,h1,T,X⟩:=S;refine oK (σ:=z × A × D × E × F × G × H × I × K × M × C) (λp=>Lx p.1 p.2.1 p.2.2.1 p.2.2.2.1 p.2.2.2.2.1 p.2.2.2.2.2.1 p.2.2.2.2.2.2.1 p.2.2.2.2.2.2.2.1 p.2.2.2.2.2.2.2.2.1 p.2.2.2.2.2.2.2.2.2.1 p.2.2.2.2.2.2.2.2.2.2) (λp=>Rx p.1 p.2.1 p.2.2.1 p.2.2.2.1 p.2.2.2.2.1 p.2.2.2.2.2.1 p.2.2.2.2.2.2.1 p.2.2.2.2.2.2.2.1 p.2.2.2.2.2.2.2.2.1 p.2.2.2.2.2.2.2.2.2.1 p.2.2.2.2.2.2.2.2.2.2) (λp=>J p.1 p.2.1 p.2.2.1 p.2.2.2.1 p.2.2.2.2.1 p.2.2.2.2.2.1 p.2.2.2.2.2.2.1 p.2.2.2.2.2.2.2.1 p.2.2.2.2.2.2.2.2.1 p.2.2.2.2.2.2.2.2.2.1 p.2.2.2.2.2.2.2.2.2.2) (λp=>μ p.1 p.2.1 p.2.2.1 p.2.2.2.1 p.2.2.2.2.1 p.2.2.2.2.2.1 p.2.2.2.2.2.2.1 p.2.2.2.2.2.2.2.1 p.2.2.2.2.2.2.2.2.1 p.2.2.2.2.2.2.2.2.2.1 p.2.2.2.2.2.2.2.2.2.2) ⟨(a,b,d,e,f,g,i,j,k,l,N),h1,T,X⟩ λp hp=>iP (round p.1 p.2.1 p.2.2.1 p.2.2.2.1 p.2.2.2.2.1 p.2.2.2.2.2.1 p.2.2.2.2.2.2.1 p.2.2.2.2.2.2.2.1 p.2.2.2.2.2.2.2.2.1 p.2.2.2.2.2.2.2.2.2.1 p.2.2.2.2.2.2.2.2.2.2 hp) ?_ (λ_ _ h=>h) (λ_ _ _ h=>h);rintro L' R' ⟨m,o,q,r,s,t,u,v,x,y,O,g1,g2,g3,g4⟩;exact⟨(m,o,q,r,s,t,u,v,x,y,O),⟨g1,g2⟩,g3,g4⟩
theorem aZk {z A E F G H I K M N C D:Type} {Q:fP} (Lx:z->A->E->F->G->H->I->K->M->N->C->D->Env) (Rx:z->A->E->F->G->H->I->K->M->N->C->D->List Row) (J:z->A->E->F->G->H->I->K->M->N->C->D->Prop) (μ:z->A->E->F->G->H->I->K->M->N->C->D->Nat)
  (X: ∃a b d e f g i j k l O S,J a b d e f g i j k l O S/\Sub (Lx a b d e f g i j k l O S) L/\ ∀w,Hp B w0 w R->Hp B w0 w (Rx a b d e f g i j k l O S))
  (round: ∀a b d e f g i j k l O S,J a b d e f g i j k l O S->W P n B w0 c {Q with nrm:=λL' R'=> ∃m o q r s t u v x y T f7,J m o q r s t u v x y T f7/\μ m o q r s t u v x y T f7<μ a b d e f g i j k l O S/\Sub (Lx m o q r s t u v x y T f7) L'/\ ∀w,Hp B w0 w R'->Hp B w0 w (Rx m o q r s t u v x y T f7)} (Lx a b d e f g i j k l O S) (Rx a b d e f g i j k l O S)):W P n B w0 (.loop c) Q L R:=by
 obtain⟨a,b,d,e,f,g,i,j,k,l,O,S,h1,Y,h3⟩:=X;refine oK (σ:=z × A × E × F × G × H × I × K × M × N × C × D) (λp=>Lx p.1 p.2.1 p.2.2.1 p.2.2.2.1 p.2.2.2.2.1 p.2.2.2.2.2.1 p.2.2.2.2.2.2.1 p.2.2.2.2.2.2.2.1 p.2.2.2.2.2.2.2.2.1 p.2.2.2.2.2.2.2.2.2.1 p.2.2.2.2.2.2.2.2.2.2.1 p.2.2.2.2.2.2.2.2.2.2.2) (λp=>Rx p.1 p.2.1 p.2.2.1 p.2.2.2.1 p.2.2.2.2.1 p.2.2.2.2.2.1 p.2.2.2.2.2.2.1 p.2.2.2.2.2.2.2.1 p.2.2.2.2.2.2.2.2.1 p.2.2.2.2.2.2.2.2.2.1 p.2.2.2.2.2.2.2.2.2.2.1 p.2.2.2.2.2.2.2.2.2.2.2) (λp=>J p.1 p.2.1 p.2.2.1 p.2.2.2.1 p.2.2.2.2.1 p.2.2.2.2.2.1 p.2.2.2.2.2.2.1 p.2.2.2.2.2.2.2.1 p.2.2.2.2.2.2.2.2.1 p.2.2.2.2.2.2.2.2.2.1 p.2.2.2.2.2.2.2.2.2.2.1 p.2.2.2.2.2.2.2.2.2.2.2) (λp=>μ p.1 p.2.1 p.2.2.1 p.2.2.2.1 p.2.2.2.2.1 p.2.2.2.2.2.1 p.2.2.2.2.2.2.1 p.2.2.2.2.2.2.2.1 p.2.2.2.2.2.2.2.2.1 p.2.2.2.2.2.2.2.2.2.1 p.2.2.2.2.2.2.2.2.2.2.1 p.2.2.2.2.2.2.2.2.2.2.2) ⟨(a,b,d,e,f,g,i,j,k,l,O,S),h1,Y,h3⟩ λp hp=>iP (round p.1 p.2.1 p.2.2.1 p.2.2.2.1 p.2.2.2.2.1 p.2.2.2.2.2.1 p.2.2.2.2.2.2.1 p.2.2.2.2.2.2.2.1 p.2.2.2.2.2.2.2.2.1 p.2.2.2.2.2.2.2.2.2.1 p.2.2.2.2.2.2.2.2.2.2.1 p.2.2.2.2.2.2.2.2.2.2.2 hp) ?_ (λ_ _ h=>h) (λ_ _ _ h=>h);rintro L' R' ⟨m,o,q,r,s,t,u,v,x,y,T,f7,g1,g2,g3,g4⟩;exact⟨(m,o,q,r,s,t,u,v,x,y,T,f7),⟨g1,g2⟩,g3,g4⟩
theorem aZj {z A F G H I K M N O C D E:Type} {Q:fP} (Lx:z->A->F->G->H->I->K->M->N->O->C->D->E->Env) (Rx:z->A->F->G->H->I->K->M->N->O->C->D->E->List Row) (J:z->A->F->G->H->I->K->M->N->O->C->D->E->Prop) (μ:z->A->F->G->H->I->K->M->N->O->C->D->E->Nat)
  (h0: ∃a b d e f g i j k l S T X,J a b d e f g i j k l S T X/\Sub (Lx a b d e f g i j k l S T X) L/\ ∀w,Hp B w0 w R->Hp B w0 w (Rx a b d e f g i j k l S T X))
  (round: ∀a b d e f g i j k l S T X,J a b d e f g i j k l S T X->W P n B w0 c {Q with nrm:=λL' R'=> ∃m o q r s t u v x y Y f7 t6,J m o q r s t u v x y Y f7 t6/\μ m o q r s t u v x y Y f7 t6<μ a b d e f g i j k l S T X/\Sub (Lx m o q r s t u v x y Y f7 t6) L'/\ ∀w,Hp B w0 w R'->Hp B w0 w (Rx m o q r s t u v x y Y f7 t6)} (Lx a b d e f g i j k l S T X) (Rx a b d e f g i j k l S T X)):W P n B w0 (.loop c) Q L R:=by
 obtain⟨a,b,d,e,f,g,i,j,k,l,S,T,X,h1,h2,h3⟩:=h0;refine oK (σ:=z × A × F × G × H × I × K × M × N × O × C × D × E) (λp=>Lx p.1 p.2.1 p.2.2.1 p.2.2.2.1 p.2.2.2.2.1 p.2.2.2.2.2.1 p.2.2.2.2.2.2.1 p.2.2.2.2.2.2.2.1 p.2.2.2.2.2.2.2.2.1 p.2.2.2.2.2.2.2.2.2.1 p.2.2.2.2.2.2.2.2.2.2.1 p.2.2.2.2.2.2.2.2.2.2.2.1 p.2.2.2.2.2.2.2.2.2.2.2.2) (λp=>Rx p.1 p.2.1 p.2.2.1 p.2.2.2.1 p.2.2.2.2.1 p.2.2.2.2.2.1 p.2.2.2.2.2.2.1 p.2.2.2.2.2.2.2.1 p.2.2.2.2.2.2.2.2.1 p.2.2.2.2.2.2.2.2.2.1 p.2.2.2.2.2.2.2.2.2.2.1 p.2.2.2.2.2.2.2.2.2.2.2.1 p.2.2.2.2.2.2.2.2.2.2.2.2) (λp=>J p.1 p.2.1 p.2.2.1 p.2.2.2.1 p.2.2.2.2.1 p.2.2.2.2.2.1 p.2.2.2.2.2.2.1 p.2.2.2.2.2.2.2.1 p.2.2.2.2.2.2.2.2.1 p.2.2.2.2.2.2.2.2.2.1 p.2.2.2.2.2.2.2.2.2.2.1 p.2.2.2.2.2.2.2.2.2.2.2.1 p.2.2.2.2.2.2.2.2.2.2.2.2) (λp=>μ p.1 p.2.1 p.2.2.1 p.2.2.2.1 p.2.2.2.2.1 p.2.2.2.2.2.1 p.2.2.2.2.2.2.1 p.2.2.2.2.2.2.2.1 p.2.2.2.2.2.2.2.2.1 p.2.2.2.2.2.2.2.2.2.1 p.2.2.2.2.2.2.2.2.2.2.1 p.2.2.2.2.2.2.2.2.2.2.2.1 p.2.2.2.2.2.2.2.2.2.2.2.2) ⟨(a,b,d,e,f,g,i,j,k,l,S,T,X),h1,h2,h3⟩ λp hp=>iP (round p.1 p.2.1 p.2.2.1 p.2.2.2.1 p.2.2.2.2.1 p.2.2.2.2.2.1 p.2.2.2.2.2.2.1 p.2.2.2.2.2.2.2.1 p.2.2.2.2.2.2.2.2.1 p.2.2.2.2.2.2.2.2.2.1 p.2.2.2.2.2.2.2.2.2.2.1 p.2.2.2.2.2.2.2.2.2.2.2.1 p.2.2.2.2.2.2.2.2.2.2.2.2 hp) ?_ (λ_ _ h=>h) (λ_ _ _ h=>h);rintro L' R' ⟨m,o,q,r,s,t,u,v,x,y,Y,f7,t6,g1,g2,g3,g4⟩;exact⟨(m,o,q,r,s,t,u,v,x,y,Y,f7,t6),⟨g1,g2⟩,g3,g4⟩
theorem aZi {z A G H I K M N O S C D E F:Type} {Q:fP} (Lx:z->A->G->H->I->K->M->N->O->S->C->D->E->F->Env) (Rx:z->A->G->H->I->K->M->N->O->S->C->D->E->F->List Row) (J:z->A->G->H->I->K->M->N->O->S->C->D->E->F->Prop) (μ:z->A->G->H->I->K->M->N->O->S->C->D->E->F->Nat)
  (h0: ∃a b d e f g i j k l T Y wx X,J a b d e f g i j k l T Y wx X/\Sub (Lx a b d e f g i j k l T Y wx X) L/\ ∀w,Hp B w0 w R->Hp B w0 w (Rx a b d e f g i j k l T Y wx X))
  (round: ∀a b d e f g i j k l T Y wx X,J a b d e f g i j k l T Y wx X->W P n B w0 c {Q with nrm:=λL' R'=> ∃m o q r s t u v x y vq f7 t6 Mt,J m o q r s t u v x y vq f7 t6 Mt/\μ m o q r s t u v x y vq f7 t6 Mt<μ a b d e f g i j k l T Y wx X/\Sub (Lx m o q r s t u v x y vq f7 t6 Mt) L'/\ ∀w,Hp B w0 w R'->Hp B w0 w (Rx m o q r s t u v x y vq f7 t6 Mt)} (Lx a b d e f g i j k l T Y wx X) (Rx a b d e f g i j k l T Y wx X)):W P n B w0 (.loop c) Q L R:=by
 obtain⟨a,b,d,e,f,g,i,j,k,l,T,Y,wx,X,h1,h2,h3⟩:=h0;refine oK (σ:=z × A × G × H × I × K × M × N × O × S × C × D × E × F) (λp=>Lx p.1 p.2.1 p.2.2.1 p.2.2.2.1 p.2.2.2.2.1 p.2.2.2.2.2.1 p.2.2.2.2.2.2.1 p.2.2.2.2.2.2.2.1 p.2.2.2.2.2.2.2.2.1 p.2.2.2.2.2.2.2.2.2.1 p.2.2.2.2.2.2.2.2.2.2.1 p.2.2.2.2.2.2.2.2.2.2.2.1 p.2.2.2.2.2.2.2.2.2.2.2.2.1 p.2.2.2.2.2.2.2.2.2.2.2.2.2) (λp=>Rx p.1 p.2.1 p.2.2.1 p.2.2.2.1 p.2.2.2.2.1 p.2.2.2.2.2.1 p.2.2.2.2.2.2.1 p.2.2.2.2.2.2.2.1 p.2.2.2.2.2.2.2.2.1 p.2.2.2.2.2.2.2.2.2.1 p.2.2.2.2.2.2.2.2.2.2.1 p.2.2.2.2.2.2.2.2.2.2.2.1 p.2.2.2.2.2.2.2.2.2.2.2.2.1 p.2.2.2.2.2.2.2.2.2.2.2.2.2) (λp=>J p.1 p.2.1 p.2.2.1 p.2.2.2.1 p.2.2.2.2.1 p.2.2.2.2.2.1 p.2.2.2.2.2.2.1 p.2.2.2.2.2.2.2.1 p.2.2.2.2.2.2.2.2.1 p.2.2.2.2.2.2.2.2.2.1 p.2.2.2.2.2.2.2.2.2.2.1 p.2.2.2.2.2.2.2.2.2.2.2.1 p.2.2.2.2.2.2.2.2.2.2.2.2.1 p.2.2.2.2.2.2.2.2.2.2.2.2.2) (λp=>μ p.1 p.2.1 p.2.2.1 p.2.2.2.1 p.2.2.2.2.1 p.2.2.2.2.2.1 p.2.2.2.2.2.2.1 p.2.2.2.2.2.2.2.1 p.2.2.2.2.2.2.2.2.1 p.2.2.2.2.2.2.2.2.2.1 p.2.2.2.2.2.2.2.2.2.2.1 p.2.2.2.2.2.2.2.2.2.2.2.1 p.2.2.2.2.2.2.2.2.2.2.2.2.1 p.2.2.2.2.2.2.2.2.2.2.2.2.2) ⟨(a,b,d,e,f,g,i,j,k,l,T,Y,wx,X),h1,h2,h3⟩ λp hp=>iP (round p.1 p.2.1 p.2.2.1 p.2.2.2.1 p.2.2.2.2.1 p.2.2.2.2.2.1 p.2.2.2.2.2.2.1 p.2.2.2.2.2.2.2.1 p.2.2.2.2.2.2.2.2.1 p.2.2.2.2.2.2.2.2.2.1 p.2.2.2.2.2.2.2.2.2.2.1 p.2.2.2.2.2.2.2.2.2.2.2.1 p.2.2.2.2.2.2.2.2.2.2.2.2.1 p.2.2.2.2.2.2.2.2.2.2.2.2.2 hp) ?_ (λ_ _ h=>h) (λ_ _ _ h=>h);rintro L' R' ⟨m,o,q,r,s,t,u,v,x,y,vq,f7,t6,Mt,g1,g2,g3,g4⟩;exact⟨(m,o,q,r,s,t,u,v,x,y,vq,f7,t6,Mt),⟨g1,g2⟩,g3,g4⟩
end
end
section
variable {P:Program} {n:Nd} {B:Nat} {w0:World} {L:Env} {R:List Row} {ty:TypeId}
end
end Go.Eng
namespace Go.Eng
open Go Go.RowKit Go.Proofs Go.Sort
theorem QI: ∀(l:AE) (t:Nat),t<l.length*2->(prs l)[t]? =some (if t%2=0 then .int .i64 (l.getD (t/2) (0,0)).1 else .int .i64 (l.getD (t/2) (0,0)).2)
 |[],t,h=>by simp at h
 |p::l,0,_=>rfl
 |p::l,1,_=>rfl
 |p::l,t+2,h=>by
  have d:=QI l t (by simp only[dh] at h;omega);have a:(t+2)%2=t%2:=G
  have b:(t+2)/2=t/2+1:=G
  rw[a,b];show(Value.int .i64 p.1::Value.int .i64 p.2::prs l)[t+2]? =_;rw[Ed,Ed,d];rfl
def encP {l:AE} (x: {p:Int × Int//p∈l}):AG:=[.int .i64 x.1.1, .int .i64 x.1.2]
theorem aAx {l:AE} [Inhabited {p:Int × Int//p∈l}] (d:Array {p:Int × Int//p∈l}):(flatK encP 2 d).toList=prs (d.toList.map Subtype.val):=by
 apply vk;intro t;have hs:(flatK encP 2 d).size=d.size*2:=size_flatK _ _ _;by_cases h:t<d.size*2
 ·rw [QI _ t (by simpa using h),rq];have b:t/2<d.size:=G
  have i:(flatK encP 2 d)[t]? =some ((flatK encP 2 d)[t]!):=by
   rw[qf (by rw[hs];exact h),uh _ t (by rw[hs];exact h)]
  rw[i,get_flatK encP 2 d t h];have e:d[t/2]! =d[t/2]:=uh d _ b
  have g:(d.toList.map Subtype.val).getD (t/2) (0,0)=d[t/2].1:=by
   simp[af,b]
  rw[e,g];rcases Nat.mod_two_eq_zero_or_one t with a|a
  ·rw[a];rfl
  rw[a];rfl
 rw[nu (by rw[jy,hs];omega),nu (by rw[kN];simp;omega)]
end Go.Eng
namespace Go.Eng
open Go Go.RowKit Go.Proofs
theorem SlW.elim {C:Prop} {k:IntKind} {w:World} {vals:AG} {ls:AD} (h:SlW k w vals ls) {i:Int} (g:0<=i) (h1:i<ls.length) (q: ∀(A:AF) (c:Nat),vals[i.toNat]? =some (Value.slice A (rdl ls i).length c)->Rd w A (rdl ls i).length c 1 (ints k (rdl ls i))->(∀x∈rdl ls i,(Lit.int k x).wf=true)->(rdl ls i).length<=140737488355327->C):C:=by
 obtain⟨A,c,a,b,d,e⟩:=h.at g h1;exact q A c a b d e
section
variable {P:Program} {n:Nd} {B:Nat} {w0:World} {L:Env} {R:List Row} {ty:TypeId}
section
variable {x:Operand} {A:AF} {m c:Nat} {i:Int} {l:AE}
theorem IB {ix:Operand} {t e:TypeId} {k:IntKind} {q:Nat} {j:Int} (d:P.underlying t=some (.array 2 e)) (hi:(P.info? e).map (·.size)=some 1) (g:ev L x=some (.pointer (pat A (i.toNat*2)))) (o:ev L ix=some (.int k j))
  (b:RdC B w0 R A m c 2 (prs l)) (p:0<=i) (h1:i<l.length) (a:j.toNat=q) (h:0<=j) (v6:j<2):Yl P n B w0 (.indexAddr t x ix) ty L R (.pointer (pat A (i.toNat*2+q))):=by
 have:=FY (P:=P) (n:=n) (B:=B) (w0:=w0) (ty:=ty) d hi g rfl o b (by rw[kN];omega) h v6;rwa[qy,a] at this
theorem bLb (a:0<=i) (h:i<l.length):(prs l)[i.toNat*2+0]? =some (.int .i64 (rdp l i).1):=by
 rw[QI _ _ G];rw[cz G,show(i.toNat*2+0)/2=i.toNat by omega];rfl
theorem bKz (a:0<=i) (h:i<l.length):(prs l)[i.toNat*2+1]? =some (.int .i64 (rdp l i).2):=by
 rw[QI _ _ G];rw[bq G,show(i.toNat*2+1)/2=i.toNat by omega];rfl
theorem aYy {t:TypeId} {d:TypeDesc} (hu:P.underlying t=some d) (b:LP d=false) (g:ev L x=some (.pointer (pat A (i.toNat*2+0)))) (e:RdC B w0 R A m c 2 (prs l)) (a:0<=i:=by omega) (h1:i<l.length:=by omega):
  Yl P n B w0 (.load t x) ty L R (.int .i64 (rdp l i).1):=kS hu b g rfl e (bLb a h1)
theorem aYx {t:TypeId} {d:TypeDesc} (hu:P.underlying t=some d) (b:LP d=false) (g:ev L x=some (.pointer (pat A (i.toNat*2+1)))) (e:RdC B w0 R A m c 2 (prs l)) (a:0<=i) (h1:i<l.length):
  Yl P n B w0 (.load t x) ty L R (.int .i64 (rdp l i).2):=kS hu b g rfl e (bKz a h1)
end
end
section
variable {P:Program} {n:Nd} {B:Nat} {w0:World} {ops:Array Oper} {K:Env->List Row->Prop} {L:Env} {R:List Row} {op:Op} {ty:TypeId} {pos:String} {na:Array Edge}
section
variable {bh:Nat} {ab:AI} {Post:Value->List Row->Prop}
def aTk (P:Program) (n:Nd) (B:Nat) (w0:World) (ops:Array Oper) (K:Env->List Row->Prop) (bh:Nat) (ab:AI) (L:Env) (R:List Row) (i:Nat):Prop:=
 ∀a w (Q:Exit->Act->World->Prop),Sat n L a->Hp B w0 w R->(∀c a w,¬Q (.panic c) a w)->(∀a' w' L' R',Sat n L' a'->Hp B w0 w' R'->K L' R'->Q .normal a' w')->
  wpOp P ops Q i (λa' w'=> ∃S':World->Prop,S' w'/\(XA ops ab i=true\/ ∀x,S' x->Hp B w0 x R)/\zQ P ops Q bh S' (ab.setIfInBounds i true) a' w') a w
theorem LZ (i j:Nat) (d:Region.ready .any ops ab=[i,j]) (hi:aTk P n B w0 ops K bh ab L R i) (h:aTk P n B w0 ops K bh ab L R j):WD P n B w0 ops K (bh+1) ab L R:=by
 intro a w Q hs hp e b;refine⟨λg=>absurd (d▸g) cD,λk hk=> ?_⟩;rw[d] at hk;rcases il.1 hk with rfl|hk
 ·exact hi a w Q hs hp e b
 obtain rfl:=gz.1 hk;exact h a w Q hs hp e b
theorem bRl {i:Nat} {o:Oper} (hi:ops[i]? =some o) (j: ∀a,Sat n L a->Region.wanted o (yielded ops a.tmps)=true) (g:Ac P n B w0 o.op o.type L R Post)
  (hn: ∀v a,Sat n L a->Sat n (match o.dst with|some d=>(d,v)::L|none=>L) (a.put o.dst v))
  (h: ∀v R',Post v R'->(XA ops ab i=true\/ ∀w,Hp B w0 w R'->Hp B w0 w R)/\WD P n B w0 ops K bh (ab.setIfInBounds i true) (match o.dst with|some d=>(d,v)::L|none=>L) R'):aTk P n B w0 ops K bh ab L R i:=by
 intro a w Q hs hp m k;unfold wpOp;simp only[hi,j a hs,Jy];refine .inl (g a w o _ Q rfl rfl hs hp λv w' R' b l=> ?_);obtain⟨h1,e⟩:=h v R' l;exact⟨λw=>Hp B w0 w R',b,h1,e _ w' Q (hn v a hs) b m k⟩
theorem PD {d:Nat} (i:Nat) (hi:ops[i]? =some {dst:=some d,op:=op,type:=ty,pos:=pos,after:=na,guard:=none}) (hn:Nat.blt d n=true) (a:Ac P n B w0 op ty L R Post)
  (h: ∀v R',Post v R'->(XA ops ab i=true\/ ∀w,Hp B w0 w R'->Hp B w0 w R)/\WD P n B w0 ops K bh (ab.setIfInBounds i true) ((d,v)::L) R'):aTk P n B w0 ops K bh ab L R i:=
 bRl hi (λ_ _=>rfl) a (λv _ hs=>hs.put hn v) h
end
end
end Go.Eng
namespace Go.Eng
open Go Go.RowKit
section
variable {w:World} {A:AF} {m c l h:Nat} {xs:AH}
theorem Rd.cutI {k:IntKind} (b:Rd w A m c 1 (ints k xs)) (h1:l<=h) (a:h<=m):Rd w (lL A l c 1) (h-l) (c-l) 1 (ints k ((xs.drop l).take (h-l))):=
 RdC.cutI (b.c []) h1 a w (Hp.refl _)
theorem Rd.fromI {k:IntKind} (a:Rd w A m c 1 (ints k xs)) (h1:l<=m):Rd w (lL A l c 1) (m-l) (c-l) 1 (ints k (xs.drop l)):=
 RdC.fromI (a.c []) h1 w (Hp.refl _)
theorem Rd.toI {k:IntKind} (b:Rd w A m c 1 (ints k xs)) (a:h<=m):Rd w A h c 1 (ints k (xs.take h)):=
 RdC.toI (b.c []) a w (Hp.refl _)
theorem eQ {x:Int} (h:0<=x/\x<256):(Lit.int .u8 x).wf=true:=by
 have h1:IntKind.u8.min<=x:=h.1
 have a:x<=IntKind.u8.max:=by
  have:IntKind.u8.max=255:=cC
  omega
 simp[Lit.wf,h1,a]
theorem SlW.snoc {k:IntKind} {vals:AG} {ls:AD} {l:AH} (h:SlW k w vals ls) (g:Rd w A m c 1 (ints k l)) (b: ∀x∈l,(Lit.int k x).wf=true) (u:l.length<=140737488355327):SlW k w (vals++[.slice A m c]) (ls++[l]):=by
 obtain rfl:=g.lenI;refine⟨by rw[aa,aa,h.1];rfl,λj d=> ?_⟩;rcases gm j ls.length with a|a
 ·obtain ⟨o,c',h1,p,q,r⟩:=h.2 j a
  have e:(ls++[l]).getD j []=ls.getD j []:=by
   rw[af,af,jh a]
  rw[e];exact⟨o,c',by rw[jh (by rw[h.1];exact a)];exact h1,p,q,r⟩
 have i:j=ls.length:=by rw[aa] at d;simp at d;omega
 have e:(ls++[l]).getD j []=l:=by
  rw[af,i,ji (dn _)];simp
 rw[e];refine⟨A,c,?_,g,b,u⟩;rw[i,<-h.1,ji (dn _)];simp
end
section
variable {P:Program} {n:Nd} {B:Nat} {w0:World} {L:Env} {R:List Row} {ty:TypeId}
end
section
variable {P:Program} {n:Nd} {B:Nat} {w0:World} {L:Env} {R:List Row} {ty:TypeId}
def WRd (P:Program) (n:Nd) (B:Nat) (w0:World) (c:Code) (Q:fP):Nat->Env->List Row->Prop
 |0,_,_=>False
 |m+1,L,R=>W P n B w0 c {Q with nrm:=WRd P n B w0 c Q m} L R
theorem kI {c:Code} {Q:fP} (m:Nat) (h:WRd P n B w0 c Q m L R):W P n B w0 (.loop c) Q L R:=by
 intro a w hs hp;refine wpIn_loop_rounds m ?_
 have key: ∀(m:Nat) (L:Env) (R:List Row) (a:Act) (w:World),Sat n L a->Hp B w0 w R->WRd P n B w0 c Q m L R->Code.roundsIn (NF n.rd) 0 P c (PQ n B w0 Q) m a w:=by
  intro m
  induction m with
  |zero=>intro L R a w _ _ h;exact h.elim
  |succ m ih=>
   intro L R a w hs hp h;rw[roundsIn_succ];refine Ba (h a w hs hp) ?_;intro e i w' b;cases e with
   |normal=>obtain⟨L',R',ge,d,g⟩:=b;exact ih _ _ _ _ ge d g
   |exit id=>exact b
   |goto l=>exact b
   |ret=>exact b
   |panic ch=>exact b
   |outgrown=>exact b
 exact key m L R a w hs hp h
theorem eD {c:Code} {Q:fP} {m:Nat} (h:W P n B w0 c {Q with nrm:=WRd P n B w0 c Q m} L R):WRd P n B w0 c Q (m+1) L R:=h
theorem bQv {t:TypeId} {x ix:Operand} {u i v:Value} (d:ev L x=some u) (hi:ev L ix=some i) (h: ∀w,(Instr.index t u i).run P w= .ok v w):Yl P n B w0 (.index t x ix) ty L R v:=by
 intro a w o b _ hs _;simp[execOp,b,hs.ev d,hs.ev hi,h]
end
def bools (l:List Bool):AG:=l.map Value.bool
def rdb (l:List Bool) (i:Int):Bool:=l.getD i.toNat false
def sV (l:List Bool) (i:Int) (v:Bool):List Bool:=l.set i.toNat v
theorem aEb (l:List Bool):(bools l).length=l.length:=by simp[bools]
theorem aXw (l:List Bool) (i:Int) (v:Bool):(bools l).set i.toNat (.bool v)=bools (sV l i v):=by simp[bools,sV,List.map_set]
theorem bHs {l:List Bool} {i:Int} (a:0<=i) (h:i<l.length):(bools l)[i.toNat]? =some (.bool (rdb l i)):=by
 have hl:i.toNat<l.length:=G
 simp[bools,rdb,af,au hl]
theorem aVa (m:Nat) (x:Bool):List.replicate m (Value.bool x)=bools (List.replicate m x):=by simp[bools]
theorem mW (l:List Bool) (i:Int) (v:Bool):(sV l i v).length=l.length:=by simp[sV]
theorem EB {l:List Bool} {i j:Int} {v:Bool} (a:0<=i) (h:i<l.length) (j0:0<=j):rdb (sV l i v) j=if j=i then v else rdb l j:=by
 unfold rdb sV;rw[af,xx,af];by_cases e:j=i
 ·subst e;rw[cz rfl,cz G,cz rfl];rfl
 rw[bq G,bq e]
theorem QD (m:Nat) (i:Int):rdb (List.replicate m false) i=false:=by
 unfold rdb;rw[af,ze];split<;>rfl
theorem aXx {l m:List Bool} (hl:l.length=m.length) (h: ∀i:Int,0<=i->i<l.length->rdb l i=rdb m i):l=m:=by
 apply su hl;intro i h1 a;have:=h i G G;simpa [rdb,af,au h1,au a] using this
section
variable {P:Program} {n:Nd} {B:Nat} {w0:World} {L:Env} {R:List Row} {ty:TypeId}
theorem Rd.lenB {w:World} {A:AF} {m c:Nat} {l:List Bool} (h:Rd w A m c 1 (bools l)):m=l.length:=by
 have:=h.len;rw[aEb] at this;omega
theorem IC {x:Operand} {t:TypeId} {d:TypeDesc} {A:AF} {m c:Nat} {l:List Bool} {i:Int} (hu:P.underlying t=some d) (j:LP d=false) (p:ev L x=some (.pointer (pat A i.toNat))) (b:RdC B w0 R A m c 1 (bools l)) (h:0<=i:=by omega) (h1:i<m:=by omega):
  Yl P n B w0 (.load t x) ty L R (.bool (decide (rdb l i=true))):=by
 intro a w o k g hs e;have hl:=(b w e).lenB;rw[show decide (rdb l i=true)=rdb l i by cases rdb l i<;>rfl];exact kS hu j p rfl b (bHs h G) a w o k g hs e
theorem yB {x y:Operand} {t e:TypeId} {j:Int} {v:Bool} {A:AF} {m c:Nat} {l:List Bool} (i:Nat) (hi:R[i]? =some ⟨e,1,A,m,c,bools l,false⟩) (h:(P.info? t).map (·.size)=some 1) (q:ev L x=some (.pointer (pat A j.toNat))) (r:ev L y=some (.bool v)) (C:0<=j:=by omega) (h1:j<m:=by omega):
  Ac P n B w0 (.store t x y) ty L R (λ_ R'=>R'=R.set i ⟨e,1,A,m,c,bools (sV l j v),false⟩):=by
 intro a w o K Q p d hs hp hk;have u:=Row.lies_w (hp.own _ (gy hi)) rfl;have io:=Row.rd (hp.own _ (gy hi));have hl:=io.len
 obtain⟨g,k⟩: ∃g,A=some ⟨g,0,none⟩:=by
  rcases u.2 with⟨_,hn⟩|⟨g,cap,cur,b,_⟩
  ·simp only at hn;omega
  simp only[ko] at b;exact⟨g,b.1⟩
 have:=aEj (P:=P) (n:=n) (B:=B) (w0:=w0) (ty:=ty) i hi rfl k h q rfl r rfl rfl (by rw[hl];simp only;omega);simp only[aXw] at this;exact this a w o K Q p d hs hp hk
theorem QW {x y:Operand} {t e:TypeId} {bytes:Nat} {m:Int} (j:P.underlying t=some (.slice e)) (b:(P.info? e).map (λi=>(i.zero,i.size,i.bytes))=some (some (.bool false),1,bytes))
  (k:ev L x=some (.int .i64 m)) (l:ev L y=some (.int .i64 m)) (d:0<=m) (h:m*bytes<=281474976710656) (a:m<=9223372036854775807):
  Ac P n B w0 (.makeSlice t x y) ty L R (λv R'=> ∃g,v= .slice (some ⟨g,0,none⟩) m.toNat m.toNat/\R'=⟨e,1,some ⟨g,0,none⟩,m.toNat,m.toNat,bools (List.replicate m.toNat false),false⟩::R):=by
 have:=aTi (P:=P) (n:=n) (B:=B) (w0:=w0) (L:=L) (R:=R) (ty:=ty) j b rfl k l d h a;simpa only[aVa] using this
end
section
variable {P:Program} {n:Nd} {B:Nat} {w0:World} {L:Env} {R:List Row} {ty:TypeId}
theorem aJj {g lo c:Nat} (h:lo<c):lL (some ⟨g,0,none⟩) lo c 1=some ⟨g,lo,none⟩:=by
 unfold lL;rw[bq G,qy,lh];unfold Addr.add;split<;>simp_all
theorem aEo {x y:Operand} {t t2 e:TypeId} {p:AF} {lo dl F m c m2 c2:Nat} {A A2:AF} {k:IntKind} {l src:AH} (i:Nat) (hi:R[i]? =some ⟨e,1,A,m,c,ints k l,false⟩) (Y:P.underlying t=some (.slice e)) (T:(P.info? e).map (·.size)=some 1)
  (hx:ev L x=some (.slice p dl F)) (hy:ev L y=some (.slice A2 m2 c2)) (hp:p=lL A lo c 1) (H:dl=m-lo) (d5:lo<m) (io:RdC B w0 R A2 m2 c2 1 (ints k src)):
  Ac P n B w0 (.call {callee:= .builtin .copy,args:= #[x,y],argTypes:= #[t,t2]}) ty L R (λv R'=>v= .int .i64 ((min m2 (m-lo):Nat):Int)/\R'=R.set i ⟨e,1,A,m,c,ints k (l.take lo++src.take (min m2 (m-lo))++l.drop (lo+min m2 (m-lo))),false⟩):=by
 intro a w o K Q X Pb hs C hk;have im:=Row.lies_w (C.own _ (gy hi)) rfl;have S:=io w C;have Ss:m2=src.length:=S.lenI;have hl:m=l.length:=by have:=im.1;rw[dB] at this;simp only at this;omega
 rcases im.2 with⟨_,hn⟩|⟨g,cap,cur,d,hb,J,r,wi,O,u⟩
 ·simp only at hn;omega
 simp only[ko,Al] at d;obtain⟨rfl,rfl⟩:=d;simp only at u O r J hb;rw[qy] at u O;have de:p=some ⟨g,lo,none⟩:=by rw[hp];exact aJj G
 subst de;subst H;obtain⟨q,N⟩: ∃q,min m2 (m-lo)=q:=⟨_,rfl⟩;rw[N] at hk;have Wv:Nat.min m2 (m-lo)=q:=N;have mt:(ints k (src.take q)).length=q:=by rw[dB,ax];omega
 have hlen:(ints k l).length=m:=by rw[dB];omega
 rcases fe m2 with hz|fm
 ·have kt:q=0:=G
  have D:=run_copy_none (P:=P) w t t2 o.type e (some ⟨g,lo,none⟩) A2 (m-lo) F m2 c2 Y T (by rw[hz];exact Nat.zero_min _);unfold Oper.wp execOp;simp only[X,resolve,invoke,builtin,jq,qg,jw,uu,jg,ug,hs.ev hx,hs.ev hy,D,Oper.upon];refine hk (.int .i64 ((0:Nat):Int)) w R C ⟨by rw[kt],?_⟩;rw[kt];simp only[yf,ik,qw,ed]
  exact(by
   apply vk;intro j;rw[xx];split
   ·rename_i e;subst e;rw[cz (gp.1 hi).1,hi]
   rfl)
 obtain ⟨a2,rfl⟩: ∃a2,A2=some a2:=by
  obtain⟨a2,h,_⟩:=S.at_ 0 _ (au (by rw[dB];omega));exact⟨a2,h⟩
 have D:=run_copy_row P w t t2 o.type e g lo (m-lo) F a2 m2 c2 cur e (ints k (src.take q)) Y T J (by rw[mt];exact N.symm) (λj v d=>by
  obtain⟨b,h1,h2⟩:=S.at_ j v (by
   rw[ints,Bt] at d;rw[qi] at d;split at d
   ·exact d
   cases d)
  obtain rfl:=fo h1
  exact h2) (by rw[mt,O];omega) (KC k _)
 rw[mt] at D;unfold Oper.wp execOp;simp only[X,resolve,invoke,builtin,jq,qg,jw,uu,jg,ug,hs.ev hx,hs.ev hy,D,Oper.upon];refine hk (.int .i64 (q:Int)) _ _ ?_ ⟨rfl,rfl⟩;refine C.upd hi (row:=some g) ⟨rfl,rfl,rfl,cD,λj _ M=>Jz w g j _ (λe=>M (by simp[e]))⟩ (dn _) (λj M=>by cases M;exact⟨_,rfl,rfl⟩) ?_ (λa' re=> .inl ⟨a',re,rfl⟩);unfold Row.lies;simp only;refine⟨?_, .inr ⟨g,c,_,rfl,hb,Kq w g cur _ e _ J,r,wi,?_,?_⟩⟩
 ·simp only[dB,aa,ax,az];omega
 ·simp only[qz,aa,ax,az,jy,dB];omega
 simp only[qy];rw[vT,vT]
 have e1:ints k (l.take lo)=cur.toList.take lo:=by
  rw[ints,Bt];show(ints k l).take lo=_;rw[<-u,List.take_take,zh G]
 have e2:ints k (l.drop (lo+q))=(cur.toList.drop (lo+q)).take (m-(lo+q)):=by
  rw[ints,Fy];show(ints k l).drop (lo+q)=_;rw[<-u,List.drop_take]
 rw[e1,e2]
 have h1:(cur.toList.take lo++ints k (src.take q)).length=lo+q:=by
  rw[aa,mt,ax,jy];omega
 rw[List.take_append,h1,bg G]
theorem bHc {A:AF} {c:Nat}:A=lL A 0 c 1:=by
 unfold lL;split
 ·rfl
 cases A with
 |none=>rfl
 |some a=>simp[Addr.add]
def JM (v:Int) (p N:Nat):AH:=List.replicate p v++List.replicate (N-p) 0
theorem aUz (v:Int) (N:Nat):JM v 0 N=List.replicate N 0:=by simp[JM]
theorem bBq (v:Int) (N:Nat):JM v N N=List.replicate N v:=by simp[JM]
theorem ZZ {v:Int} {p N:Nat}:(JM v p N).take p=List.replicate p v:=by simp[JM]
theorem aAa {v:Int} {p q N:Nat} {src:AH} (h:p+q<=N) (hs:src=List.replicate q v):(JM v p N).take p++src++(JM v p N).drop (p+q)=JM v (p+q) N:=by
 subst hs;rw[ZZ];unfold JM;rw[List.drop_append];simp only[df,List.drop_replicate,show p-(p+q)=0 by omega,Gu,ig,Fe];congr 2;omega
end
section
variable {P:Program} {n:Nd} {B:Nat} {w0:World} {ops:Array Oper} {K:Env->List Row->Prop} {L:Env} {R Rc:List Row} {op:Op} {ty:TypeId} {pos:String} {na:Array Edge}
section
variable {bh d:Nat} {ab:AI} {v:Value} {Post:Value->List Row->Prop}
def WDc (P:Program) (n:Nd) (B:Nat) (w0:World) (ops:Array Oper) (K:Env->List Row->Prop) (bh:Nat) (ab:AI) (L:Env) (R Rc:List Row):Prop:=
 ∀a w (Q:Exit->Act->World->Prop),Sat n L a->Hp B w0 w R->(∀w,Hp B w0 w R->Hp B w0 w Rc)->(∀c a w,¬Q (.panic c) a w)->(∀a' w' L' R',Sat n L' a'->Hp B w0 w' R'->K L' R'->Q .normal a' w')->zQ P ops Q bh (λw=>Hp B w0 w Rc) ab a w
def aKo (P:Program) (n:Nd) (B:Nat) (w0:World) (ops:Array Oper) (K:Env->List Row->Prop) (bh:Nat) (ab:AI) (L:Env) (R Rc:List Row) (i:Nat):Prop:=
 ∀a w (Q:Exit->Act->World->Prop),Sat n L a->Hp B w0 w R->(∀w,Hp B w0 w R->Hp B w0 w Rc)->(∀c a w,¬Q (.panic c) a w)->(∀a' w' L' R',Sat n L' a'->Hp B w0 w' R'->K L' R'->Q .normal a' w')->
  wpOp P ops Q i (λa' w'=> ∃S':World->Prop,S' w'/\(XA ops ab i=true\/ ∀x,S' x->Hp B w0 x Rc)/\zQ P ops Q bh S' (ab.setIfInBounds i true) a' w') a w
theorem bZs (h:WDc P n B w0 ops K bh ab L R R):WD P n B w0 ops K bh ab L R:=
 λa w Q hs hp d b=>h a w Q hs hp (λ_ h=>h) d b
theorem fB (i:Nat) (hi:ops[i]? =some {dst:=some d,op:=op,type:=ty,pos:=pos,after:=na,guard:=none}) (hc:chk ops ab i=true) (hn:Nat.blt d n=true)
  (p:Yl P n B w0 op ty L Rc v) (h:WDc P n B w0 ops K bh (ab.setIfInBounds i true) ((d,v)::L) R Rc):WDc P n B w0 ops K (bh+1) ab L R Rc:=by
 intro a w Q hs hp b e m;simp only[chk,lv] at hc;obtain⟨⟨⟨h1,g⟩,j⟩,k⟩:=hc;refine IG hi (Region.noSelect_spec h1) (λc a w l=>(e c _ w l).elim) bh _ ab a w k (Region.free_spec hi g) (by simpa using j) (.inl ⟨rfl,λw o=>p a w _ rfl rfl hs o⟩) (b w hp) ?_;exact h _ w Q (hs.put hn v) hp b e m
theorem sM (d:Region.ready .any ops ab=[]) (h:K L R):WDc P n B w0 ops K bh ab L R Rc:=by
 intro a w Q hs hp _ e b;cases bh with
 |zero=>exact⟨d,b _ _ L R hs hp h⟩
 |succ bh=>exact⟨λ_=>b _ _ L R hs hp h,by rw[d];simp⟩
theorem sN (i:Nat) (hi:ops[i]? =some {dst:=some d,op:=op,type:=ty,pos:=pos,after:=na,guard:=none}) (hn:Nat.blt d n=true) (g:Ac P n B w0 op ty L R Post)
  (h: ∀v R',Post v R'->(∀w,Hp B w0 w R'->Hp B w0 w Rc)/\WDc P n B w0 ops K bh (ab.setIfInBounds i true) ((d,v)::L) R' Rc):aKo P n B w0 ops K bh ab L R Rc i:=by
 intro a w Q hs hp m l j;unfold wpOp;simp only[hi];rw[cz (by simp[Region.wanted])];refine .inl (g a w _ _ Q rfl rfl hs hp λv w' R' b k=> ?_);obtain⟨h1,e⟩:=h v R' k;exact⟨λw=>Hp B w0 w Rc,h1 w' b, .inr λ_ h=>h,e _ w' Q (hs.put hn v) b h1 l j⟩
theorem YF (i:Nat) (hi:ops[i]? =some {dst:=none,op:=op,type:=ty,pos:=pos,after:=na,guard:=none}) (e:Ac P n B w0 op ty L R Post)
  (h: ∀v R',Post v R'->(∀w,Hp B w0 w R'->Hp B w0 w Rc)/\WDc P n B w0 ops K bh (ab.setIfInBounds i true) L R' Rc):aKo P n B w0 ops K bh ab L R Rc i:=by
 intro a w Q hs hp l k g;unfold wpOp;simp only[hi];rw[cz (by simp[Region.wanted])];refine .inl (e a w _ _ Q rfl rfl hs hp λv w' R' b j=> ?_);obtain⟨h1,d⟩:=h v R' j;exact⟨λw=>Hp B w0 w Rc,h1 w' b, .inr λ_ h=>h,d _ w' Q hs b h1 k g⟩
theorem iV (i:Nat) (b:Region.ready .any ops ab=[i]) (hi:aKo P n B w0 ops K bh ab L R Rc i):WDc P n B w0 ops K (bh+1) ab L R Rc:=by
 intro a w Q hs hp g h e;refine⟨λd=>absurd (b▸d) cD,λk hk=> ?_⟩;rw[b] at hk;obtain rfl:=gz.1 hk;exact hi a w Q hs hp g h e
theorem aDz (i j:Nat) (d:Region.ready .any ops ab=[i,j]) (hi:aKo P n B w0 ops K bh ab L R Rc i) (l:aKo P n B w0 ops K bh ab L R Rc j):WDc P n B w0 ops K (bh+1) ab L R Rc:=by
 intro a w Q hs hp e g b;refine⟨λh=>absurd (d▸h) cD,λk hk=> ?_⟩;rw[d] at hk;rcases il.1 hk with rfl|hk
 ·exact hi a w Q hs hp e g b
 obtain rfl:=gz.1 hk;exact l a w Q hs hp e g b
theorem vX {u:Value} (hu:u=v) (h:WDc P n B w0 ops K bh ab ((d,v)::L) R Rc):WDc P n B w0 ops K bh ab ((d,u)::L) R Rc:=by
 subst hu;exact h
end
end
section
variable {B:Nat} {w0 w w':World} {R R':List Row}
theorem Hp.allocObj (h:Hp B w0 w R) (o:Obj):Hp B w0 (w.alloc o) R:=
 h.join (Rn:=[]) ⟨(Fj _ _).alloc (dn _) _,cD,λ_ a=>(by cases a), .nil,Late.alloc _ _⟩
theorem Hp.putObj (h:Hp B w0 w R) {l:Nat} {o:Obj} (j:w.heap[l]? =some o) (hn:aHo o=true) (d:Obj) (g:B<=l) (p:w0.heap.size<=l):Hp B w0 (w.putObj l d) R:=by
 refine⟨h.below.trans ((Fj _ _).grown (grownBy_putObj' w l d) h.base λk e=>by cases e;exact g),by rw[World.putObj_size];exact h.base,λr b=> ?_,h.apart,⟨h.late.1,λk q hk hc=> ?_⟩⟩
 ·refine Row.lies_of_block (h.own r b) λa i=>World.putObj_heap_other λe=> ?_;obtain⟨cs,e',m,hc⟩:=Row.lies_cells (h.own r b) i;rw[e,j] at hc;cases hc;cases hn
 rw [World.putObj_heap_other (λe=>by have:=(gu.1 hk).1;omega)];exact h.late.2 k q hk hc
theorem Hp.rebase (h:Hp B w0 w R):Hp B w w R:=⟨Fj _ _,h.base,h.own,h.apart,Late.refl _⟩
theorem Hp.comp (h:Hp B w0 w R) (a:Hp B w w' R'):Hp B w0 w' R':=⟨h.below.trans a.below,a.base,a.own,a.apart,h.late.trans a.late⟩
theorem Rd.cb {W:World} {A:AF} {n c sz:Nat} {xs:AG} (h:Rd w A n c sz xs) (hb:Below w.heap.size w W) (R:List Row):RdC w.heap.size W R A n c sz xs:=
 λ_ a=>h.below (hb.trans a.below)
end
def mark (D:Nat):Deferred:= {target:= .collected D,args:= #[]}
section
variable {P:Program} {n:Nd} {B:Nat} {w0 w00:World} {F:Exit->Act->World->Prop} {L:Env} {R:List Row}
section
variable {c x y assign body:Code} {id m gf N r:Nat} {pl:List Nat} {xd:World->Prop} {f:Nat->AG} {ds:List Deferred} {g:Operand} {fn:Func} {Post:Value->List Row->Prop}
def V (P:Program) (n:Nd) (B:Nat) (w0:World) (c:Code) (F:Exit->Act->World->Prop) (L:Env) (R:List Row):Prop:=
 ∀a w,Sat n L a->Hp B w0 w R->c.wpIn (NF n.rd) 0 P F a w
def FQ (F:Exit->Act->World->Prop) (n:Nd) (B:Nat) (w0:World):fP:=
 ⟨λL R=> ∀a w,Sat n L a->Hp B w0 w R->F .normal a w,λL R=> ∀a w,Sat n L a->Hp B w0 w R->F .ret a w,λi L R=> ∀a w,Sat n L a->Hp B w0 w R->F (.exit i) a w⟩
theorem v_w (h:W P n B w0 c (FQ F n B w0) L R):V P n B w0 c F L R:=λa w hs hp=>by
 refine Ba (h a w hs hp) λe j w' b=> ?_;cases e with
 |normal=>obtain⟨L',R',ge,d,g⟩:=b;exact g j w' ge d
 |ret=>obtain⟨L',R',ge,d,g⟩:=b;exact g j w' ge d
 |exit i=>obtain⟨L',R',ge,d,g⟩:=b;exact g j w' ge d
 |goto l=>exact b.elim
 |panic ch=>exact b.elim
 |outgrown=>exact b.elim
theorem eZ (h:W P n B w0 x {FQ F n B w0 with nrm:=λL R=>V P n B w0 y F L R} L R):V P n B w0 (.seq x y) F L R:=λa w hs hp=>by
 refine wpIn_seq (Ba (h a w hs hp) λe j w' b=> ?_);cases e with
 |normal=>obtain⟨L',R',ge,d,g⟩:=b;exact g j w' ge d
 |ret=>obtain⟨L',R',ge,d,g⟩:=b;exact g j w' ge d
 |exit i=>obtain⟨L',R',ge,d,g⟩:=b;exact g j w' ge d
 |goto l=>exact b.elim
 |panic ch=>exact b.elim
 |outgrown=>exact b.elim
theorem NQ (h:V P n B w0 x (Exit.then (y.wpIn (NF n.rd) 0 P F) F) L R):V P n B w0 (.seq x y) F L R:=λa w hs hp=>wpIn_seq (h a w hs hp)
def VN (n:Nd) (B:Nat) (w0:World) (F:Exit->Act->World->Prop) (L:Env) (R:List Row):Prop:= ∀a w,Sat n L a->Hp B w0 w R->F .normal a w
theorem aFh {rd:Option Nat} (h:V P n B w0 y F L R) (io:n.rd=rd:=by exact rfl):VN n B w0 (Exit.then (y.wpIn (NF rd) 0 P F) F) L R:=λa w hs hp=>by subst io;exact h a w hs hp
theorem RQ (h:VN n B w0 F L R):VN n B w0 (Exit.inBlock id F) L R:=h
theorem vH (h:V P n B w0 c (Exit.inBlock id F) L R):V P n B w0 (.block id c) F L R:=λa w hs hp=>wpIn_block (h a w hs hp)
def prm:List Nat->AG->Env->Env
 |p::ps,v::vs,L=>prm ps vs ((p,v)::L)
 |_,_,L=>L
theorem Sat.prm: ∀(pl:List Nat) (vs:AG) {m:Nat} {ds:List Deferred} {rd:Option Nat} {L:Env} {t:Array Value},pl.all (λp=>Nat.blt p m)=true->Sat ⟨m,ds,rd⟩ L {tmps:=t,defers:=ds}->
  Sat ⟨m,ds,rd⟩ (prm pl vs L) {tmps:=(pl.zip vs).foldl (λt (p,v)=>t.setIfInBounds p v) t,defers:=ds}
 |[],_,_,_,_,_,_,_,h=>h
 |_::_,[],_,_,_,_,_,_,h=>h
 |p::pl,v::vs,m,ds,rd,L,t,hp,h=>by
  simp only[Fx,lv] at hp;have h1:Sat ⟨m,ds,rd⟩ ((p,v)::L) {tmps:=t.setIfInBounds p v,defers:=ds}:=h.put (d:=p) hp.1 v;exact Sat.prm pl vs hp.2 h1
def Iter (P:Program) (gf:Nat) (lb:Array Value) (xd:World->Prop) (N:Nat) (f:Nat->AG):Prop:=
 ∀(l:Nat) (J:Nat->World->Prop) (W:World),(∀k W,J k W->xd W)->(∀k W (d:Nat),J k W->W.drawn<=d->J k {W with drawn:=d})->
  (∀k W,k<N->J k W->YieldAt Fence.wide 0 P l (f k).toArray W λe W'=>e= .returned (.bool true)/\J (k+1) W')->
  J 0 W->CallsIn Fence.wide 0 P gf (#[.func (.yield l) #[] #[]]++lb) W λe W'=>(∃v,e= .returned v)/\J N W'
structure Gd (B:Nat) (w00:World) (n:Nd) (w0:World):Prop where
 below:Below B w00 w0
 late:Late w00 w0
 nodup:n.ds.Nodup
 marks: ∀d∈n.ds,∃D,d=mark D/\B<=D/\w00.heap.size<=D/\w0.heap[D]? =some (.deferred (some []))
theorem Gd.refl:Gd B w00 (m:Nd) w00:=⟨Fj _ _,Late.refl _, .nil,λ_ h=>(by cases h)⟩
theorem rounds {σ:Type} {lb:Array Value} (it:Iter P gf lb xd N f)
  (yp:pl.all (λp=>Nat.blt p m)=true) (ua: ∀k,(f k).length=pl.length) (Rx:Nat->σ->List Row) (J:Nat->σ->Prop) (uv: ∀k s w,J k s->Hp B w0 w (Rx k s)->xd w)
  (round: ∀l k s S,k<N->J k s->Below B w0 S->W P ⟨m,[],some l⟩ B S assign ⟨λL' R'=> ∀y,Below B w0 y->W P ⟨m,[],some l⟩ B y body ⟨λ_ n9=> ∃r,J (k+1) r/\ ∀T w,Hp B T w n9->Hp B T w (Rx (k+1) r),λ_ _=>False,λ_ _ _=>False⟩ L' R',λ_ _=>False,λ_ _ _=>False⟩ (prm pl (f k) L) (Rx k s))
  {l:Nat} {rec:LoopState->Loop} {fn:FuncId} {t:Array Value} {Df:Nat} (g:rec=λst=> {state:=st,pending:=none,fn,tmps:=t,params:=pl.toArray,assign,body,defers:=Df}) (ht:Sat ⟨m,[],some l⟩ L {tmps:=t,defers:=[]}) (Zo:B<=l) (zc:w0.heap.size<=l) (X:World->Prop)
  (D: ∀W b R R',X W->Hp B w0 W R->Hp B W b R'->X b) (Yp: ∀W o,X W->X (W.putObj l o)) {i:World} (Nq:i.heap[l]? =some (.loop (rec .ready))) (F:X i) {Q:σ} (Md:J 0 Q) (ti:Hp B w0 i (Rx 0 Q)):
  CallsIn Fence.wide 0 P gf (#[.func (.yield l) #[] #[]]++lb) i λe b=>(∃v,e= .returned v)/\ ∃s,J N s/\Hp B w0 b (Rx N s)/\b.heap[l]? =some (.loop (rec .ready))/\X b:=by
 refine it l (λk W=> ∃s,J k s/\Hp B w0 W (Rx k s)/\W.heap[l]? =some (.loop (rec .ready))/\X W) i (λk W ⟨s,j,hp,_⟩=>uv k s W j hp) (λk W d ⟨s,j,hp,hl,M⟩ hd=>⟨s,j,hp.drawn d hd,hl,D _ _ _ _ M hp (hp.rebase.drawn d hd)⟩) ?_ ⟨Q,Md,ti,Nq,F⟩;rintro k W hk ⟨s,j,hp,hl,M⟩;have hy:=run_yield (P:=P) (args:=(f k).toArray) hl (by rw[g];simp[ua k])
 have j5:Sat ⟨m,[],some l⟩ (prm pl (f k) L) {tmps:=(rec .ready).params.zip (f k).toArray|>.foldl (λt (p,v)=>t.setIfInBounds p v) (rec .ready).tmps,defers:=[]}:=by
  rw[g];simpa using Sat.prm pl (f k) yp ht
 refine⟨fn,_,assign,body,by rw[hy,g],roundIn_of_wpIn trivial ?_⟩;refine Ba ((round l k s W hk j hp.below) _ _ (by rw[g] at j5;exact j5) hp.rebase) ?_;rintro e a1 Y a;cases e with
 | normal=>
  obtain⟨L',R',ge,A,hb⟩:=a;have x:=A.late.2 _ _ hl rfl;have Oq:=hp.comp A;have ci:=(gu.1 x).1;have H:=run_beginRound (P:=P) x (by rw[g]);refine⟨_,H,?_⟩;have q:Hp B w0 (Y.putObj l (.loop {rec .ready with state:= .busy})) R':=Oq.putObj x rfl _ Zo zc;have yk:(Y.putObj l (.loop {rec .ready with state:= .busy})).heap[l]? =some (.loop {rec .ready with state:= .busy}):=World.putObj_heap_same ci;have Vu:=Yp _ (.loop {rec .ready with state:= .busy}) (D _ _ _ _ M hp A);refine Ba (hb _ q.below a1 _ ge q.rebase) ?_;rintro e a3 y a;cases e with
  | normal=>
   obtain⟨L3,R3,_,O,r,C,Sg⟩:=a;have u:=O.late.2 _ _ yk rfl;have K:=run_endRound (P:=P) none u;refine⟨_,_,K,rfl,r,C,?_,?_,?_⟩
   ·exact(q.comp (Sg _ _ O)).putObj u rfl _ Zo zc
   ·rw [World.putObj_heap_same (gu.1 u).1,g];rfl
   exact Yp _ _ (D _ _ _ _ Vu q O)
  |ret=>obtain⟨_,_,_,_,h⟩:=a;exact h.elim
  |exit id=>obtain⟨_,_,_,_,h⟩:=a;exact h.elim
  |goto t=>exact a.elim
  |panic ch=>exact a.elim
  |outgrown=>exact a.elim
 |ret=>obtain⟨_,_,_,_,h⟩:=a;exact h.elim
 |exit id=>obtain⟨_,_,_,_,h⟩:=a;exact h.elim
 |goto t=>exact a.elim
 |panic ch=>exact a.elim
 |outgrown=>exact a.elim
theorem aPx {σ:Type} {gf:Nat} {A:Array Value} (hg:ev L g=some (.func (.func gf) #[] A))
  (Mg: ∀args w,(callFunc gf args).run P w= .ok (.enter gf args) w) (it:Iter P gf A xd N f)
  (yp:pl.all (λp=>Nat.blt p m)=true) (ua: ∀k,(f k).length=pl.length) (j:Gd B w00 ⟨m,ds,none⟩ w0) (Rx:Nat->σ->List Row) (J:Nat->σ->Prop) (h0: ∃s,J 0 s/\ ∀w,Hp B w0 w R->Hp B w0 w (Rx 0 s)) (uv: ∀k s w,J k s->Hp B w0 w (Rx k s)->xd w)
  (round: ∀l k s i,k<N->J k s->Below B w0 i->W P ⟨m,[],some l⟩ B i assign ⟨λL' R'=> ∀X,Below B w0 X->W P ⟨m,[],some l⟩ B X body ⟨λ_ n9=> ∃s',J (k+1) s'/\ ∀Y w,Hp B Y w n9->Hp B Y w (Rx (k+1) s'),λ_ _=>False,λ_ _ _=>False⟩ L' R',λ_ _=>False,λ_ _ _=>False⟩ (prm pl (f k) L) (Rx k s))
  (after: ∀H D s,J N s->Below B w0 H->Gd B w00 ⟨m,mark D::ds,none⟩ H->VN ⟨m,mark D::ds,none⟩ B H F L (Rx N s)):
  V P ⟨m,ds,none⟩ B w0 (.rangeFunc g pl.toArray assign body) F L R:=by
 intro a w hs hp;refine wpIn_rangeFunc ?_;intro fn _;obtain⟨rec,C⟩: ∃rec:LoopState->Loop,rec=λst=> {state:=st,pending:=none,fn,tmps:=a.tmps,params:=pl.toArray,assign,body,defers:=w.heap.size}:=⟨_,rfl⟩;obtain⟨b,r⟩: ∃b,(w.alloc (.deferred (some []))).alloc (.loop (rec .ready))=b:=⟨_,rfl⟩
 have Nq:b.heap[w.heap.size+1]? =some (.loop (rec .ready)):=by
  rw[<-r];have:=World.alloc_heap_new (w.alloc (.deferred (some []))) (.loop (rec .ready));rwa[World.size_alloc] at this
 have M:b.heap[w.heap.size]? =some (.deferred (some [])):=by
  rw[<-r];exact(Below.heap_alloc _ _ _ cD).trans (World.alloc_heap_new w _)
 obtain⟨s0,Md,Qm⟩:=h0;have ti:Hp B w0 b (Rx 0 s0):=by rw[<-r];exact((Qm w hp).allocObj _).allocObj _
 have Zr:w0.heap.size<=w.heap.size:=hp.below.size;have Zs:=hp.base;refine⟨w.heap.size+1,[mark w.heap.size],b,{target:= .fn (.func gf) A,args:= #[.func (.yield (w.heap.size+1)) #[] #[]]},b,gf,#[.func (.yield (w.heap.size+1)) #[] #[]]++A,b,?_,?_,λ_ _=>trivial,?_,λh=>(by cases h),?_⟩
 ·rw[<-r,C];exact run_enterLoop_outer _ _ _ _ _
 ·simp only[resolve,hs.ev hg];simp[go_sem]
 ·simp[invoke,go_sem,Mg]
 refine CallsIn.mono (rounds (w0:=w0) (m:=m) (L:=L) it yp ua Rx J uv round (l:=w.heap.size+1) (rec:=rec) C ⟨hs.size,rfl,hs.val⟩ G G (λW=>W.heap[w.heap.size]? =some (.deferred (some []))/\Late w W) ?_ ?_ Nq ⟨M,?_⟩ Md ti) ?_
 ·rintro W W' R R' ⟨hk,hl⟩ _ y;exact⟨y.late.2 _ _ hk rfl,hl.trans y.late⟩
 ·rintro W o ⟨hk,hl⟩;refine⟨(World.putObj_heap_other G).trans hk,hl.1,λk q u hc=> ?_⟩;rw[World.putObj_heap_other (λe=>by have:=(gu.1 u).1;omega)];exact hl.2 k q u hc
 ·rw [<-r];exact(Late.alloc _ _).trans (Late.alloc _ _)
 rintro e i ⟨⟨v,rfl⟩,s,hJ,pn,yk,v7,T⟩;have i7:=run_endLoop (P:=P) yk (by rw[C];simp);have S:(rec .ready).pending=none:=by rw[C]
 refine⟨none,i.putObj (w.heap.size+1) (.loop {rec .ready with state:= .exhausted}),i7.trans (bi (λp=>Result.ok p _) S),?_⟩;have x:Hp B w0 (i.putObj (w.heap.size+1) (.loop {rec .ready with state:= .exhausted})) (Rx N s):=pn.putObj yk rfl _ G G;have Ps:(i.putObj (w.heap.size+1) (.loop {rec .ready with state:= .exhausted})).heap[w.heap.size]? =some (.deferred (some [])):=(World.putObj_heap_other G).trans v7
 have Uv:Late w (i.putObj (w.heap.size+1) (.loop {rec .ready with state:= .exhausted})):=⟨T.1,λk q u hc=>by
  rw[World.putObj_heap_other (λe=>by have:=(gu.1 u).1;omega)]
  exact T.2 k q u hc⟩
 have j4:=hs.defers;refine after _ w.heap.size s hJ x.below ⟨j.below.trans x.below,j.late.trans x.late,xe.2 ⟨λgs=> ?_,j.nodup⟩,λd O=> ?_⟩ _ _ ⟨hs.size,by simp only[ou,j4],hs.val⟩ x.rebase
 ·obtain ⟨D,Q,_,_,K⟩:=j.marks _ gs;have h1:=(gu.1 K).1;simp only[mark,Deferred.mk.injEq,Target.collected.injEq,Az] at Q;omega
 rcases il.1 O with rfl|O
 ·exact⟨_,rfl,G,by have:=j.below.size;omega,Ps⟩
 obtain ⟨D,Q,h1,y,K⟩:=j.marks _ O;exact⟨D,Q,h1,y,x.late.2 _ _ K rfl⟩
theorem aZo {e i:Type} {gf:Nat} {u:Array Value} (K:ev L g=some (.func (.func gf) #[] u))
  (x: ∀args w,(callFunc gf args).run P w= .ok (.enter gf args) w) (M:Iter P gf u xd N f)
  (S:pl.all (λp=>Nat.blt p m)=true) (O: ∀k,(f k).length=pl.length) (H:Gd B w00 ⟨m,ds,none⟩ w0) (Rx:Nat->e->i->List Row) (J:Nat->e->i->Prop)
  (A: ∃a b,J 0 a b/\ ∀w,Hp B w0 w R->Hp B w0 w (Rx 0 a b)) (Q: ∀k a b w,J k a b->Hp B w0 w (Rx k a b)->xd w)
  (round: ∀l k a b o,k<N->J k a b->Below B w0 o->W P ⟨m,[],some l⟩ B o assign ⟨λL' R'=> ∀q,Below B w0 q->W P ⟨m,[],some l⟩ B q body ⟨λ_ v=> ∃c d,J (k+1) c d/\ ∀r w,Hp B r w v->Hp B r w (Rx (k+1) c d),λ_ _=>False,λ_ _ _=>False⟩ L' R',λ_ _=>False,λ_ _ _=>False⟩ (prm pl (f k) L) (Rx k a b))
  (after: ∀j D a b,J N a b->Below B w0 j->Gd B w00 ⟨m,mark D::ds,none⟩ j->VN ⟨m,mark D::ds,none⟩ B j F L (Rx N a b)):
  V P ⟨m,ds,none⟩ B w0 (.rangeFunc g pl.toArray assign body) F L R:=by
 obtain⟨a,b,h1,C⟩:=A;refine aPx (σ:=e × i) K x M S O H (λk p=>Rx k p.1 p.2) (λk p=>J k p.1 p.2) ⟨(a,b),h1,C⟩ (λk p=>Q k p.1 p.2) (λl k p o hk hp hb=>iP (round l k p.1 p.2 o hk hp hb) ?_ (λ_ _ h=>h) (λ_ _ _ h=>h)) (λj D p=>after j D p.1 p.2);intro L' R' h q y;refine iP (h q y) ?_ (λ_ _ h=>h) (λ_ _ _ h=>h);rintro _ v ⟨c,d,g1,g2⟩;exact⟨(c,d),g1,g2⟩
theorem IP {o q r s:Type} {gf:Nat} {A:Array Value} (S:ev L g=some (.func (.func gf) #[] A))
  (H: ∀args w,(callFunc gf args).run P w= .ok (.enter gf args) w) (T:Iter P gf A xd N f)
  (yp:pl.all (λp=>Nat.blt p m)=true) (X: ∀k,(f k).length=pl.length) (Q:Gd B w00 ⟨m,ds,none⟩ w0) (Rx:Nat->o->q->r->s->List Row) (J:Nat->o->q->r->s->Prop)
  (M: ∃a b c d,J 0 a b c d/\ ∀w,Hp B w0 w R->Hp B w0 w (Rx 0 a b c d)) (Y: ∀k a b c d w,J k a b c d->Hp B w0 w (Rx k a b c d)->xd w)
  (round: ∀l k a b c d v,k<N->J k a b c d->Below B w0 v->W P ⟨m,[],some l⟩ B v assign ⟨λL' R'=> ∀x,Below B w0 x->W P ⟨m,[],some l⟩ B x body ⟨λ_ C=> ∃e i j n,J (k+1) e i j n/\ ∀y w,Hp B y w C->Hp B y w (Rx (k+1) e i j n),λ_ _=>False,λ_ _ _=>False⟩ L' R',λ_ _=>False,λ_ _ _=>False⟩ (prm pl (f k) L) (Rx k a b c d))
  (after: ∀u D a b c d,J N a b c d->Below B w0 u->Gd B w00 ⟨m,mark D::ds,none⟩ u->VN ⟨m,mark D::ds,none⟩ B u F L (Rx N a b c d)):
  V P ⟨m,ds,none⟩ B w0 (.rangeFunc g pl.toArray assign body) F L R:=by
 obtain⟨a,b,c,d,h1,O⟩:=M;refine aPx (σ:=o × q × r × s) S H T yp X Q (λk p=>Rx k p.1 p.2.1 p.2.2.1 p.2.2.2) (λk p=>J k p.1 p.2.1 p.2.2.1 p.2.2.2) ⟨(a,b,c,d),h1,O⟩ (λk p=>Y k p.1 p.2.1 p.2.2.1 p.2.2.2) (λl k p v hk hp hb=>iP (round l k p.1 p.2.1 p.2.2.1 p.2.2.2 v hk hp hb) ?_ (λ_ _ h=>h) (λ_ _ _ h=>h)) (λu D p=>after u D p.1 p.2.1 p.2.2.1 p.2.2.2);intro L' R' h x K;refine iP (h x K) ?_ (λ_ _ h=>h) (λ_ _ _ h=>h);rintro _ C ⟨e,i,j,n,g1,g2⟩;exact⟨(e,i,j,n),g1,g2⟩
def bIv (P:Program) (fn:Func) (B:Nat) (w00:World) (Post:Value->List Row->Prop):Exit->Act->World->Prop:=
 bodyPostM Fence.wide 0 P fn λe w'=> ∃v R',e= .returned v/\Hp B w00 w' R'/\Post v R'
theorem JX {fn:Func} {Post:Value->List Row->Prop} {tmps:Array Value} {v:Value} {w0:World} (m:Below B w00 w0) (o:Late w00 w0): ∀(ds:List Deferred) (w:World),ds.Nodup->(∀d∈ds,∃D,d=mark D/\B<=D/\w00.heap.size<=D/\w.heap[D]? =some (.deferred (some [])))->Hp B w00 w R->(∀w,(results fn tmps).run P w= .ok v w)->Post v R->
  LeavesInM Fence.wide 0 P fn tmps (λe w'=> ∃v R',e= .returned v/\Hp B w00 w' R'/\Post v R') ds .returning w
 |[],w,_,_,hp,hr,hv=>⟨v,hr w,v,R,rfl,hp,hv⟩
 |d::ds,w,hn,hm,hp,hr,hv=>by
  obtain⟨D,rfl,h1,l,h⟩:=hm _ (.head _);refine⟨cD, .inl ⟨D,_,rfl,run_takeDeferred h,JX m o ds _ (xe.1 hn).2 (λd i=> ?_) (hp.putObj h rfl _ h1 l) hr hv⟩⟩;obtain⟨k,j,a,b,g⟩:=hm d (.tail _ i);refine⟨k,j,a,b,(World.putObj_heap_other λe=> ?_).trans g⟩;subst e;subst j;exact(xe.1 hn).1 i
theorem bFj {v:Value} (b:Gd B w00 n w0) (e: ∀a w,Sat n L a->(results fn a.tmps).run P w= .ok v w) (m:Post v R): ∀a w,Sat n L a->Hp B w0 w R->bIv P fn B w00 Post .ret a w/\bIv P fn B w00 Post .normal a w:=by
 intro a w hs hp;have g:Hp B w00 w R:=⟨b.below.trans hp.below,hp.base,hp.own,hp.apart,b.late.trans hp.late⟩
 have h:=JX (P:=P) (fn:=fn) (Post:=Post) (tmps:=a.tmps) (v:=v) b.below b.late n.ds w b.nodup (λd k=>by
  obtain⟨D,l,h1,i,j⟩:=b.marks d k
  exact⟨D,l,h1,i,hp.late.2 _ _ j rfl⟩) g (λw=>e a w hs) m
 rw[<-hs.defers] at h;exact⟨h,h⟩
theorem bVi (d:fn.results= #[.tmp r]) (b:Gd B w00 n w0) (h: ∃v,lk L r=some v/\Post v R): ∀a w,Sat n L a->Hp B w0 w R->bIv P fn B w00 Post .ret a w:=by
 obtain⟨v,e,un⟩:=h;exact λa w hs hp=>(bFj b (λa w hs=>by rw[results_tmp d,hs.getD e]) un a w hs hp).1
theorem bFk {s:Nat} (d:fn.results= #[.tmp r, .tmp s]) (b:Gd B w00 n w0) (h: ∃v u,lk L r=some v/\lk L s=some u/\Post (.tuple #[v,u]) R): ∀a w,Sat n L a->Hp B w0 w R->bIv P fn B w00 Post .ret a w:=by
 obtain⟨v,u,e,hu,un⟩:=h;exact λa w hs hp=>(bFj b (λa w hs=>by rw[results_tmp2 d,hs.getD e,hs.getD hu]) un a w hs hp).1
theorem fnV {f:FuncId} {args:AG} (b:P.funcs[f]? =some fn) (hb:fn.body=some c) (hl:Nat.ble args.length fn.ntmps=true)
  (h:V P (fn.ntmps:Nd) B w00 c (bIv P fn B w00 Post) (ini 0 args) R):Ct P f args.toArray B w00 R Post:=by
 intro w e;have g:args.length<=fn.ntmps:=ah hl;refine callsIn_wide.1 (callsIn_of_wp_marks (F:=Fence.wide) (n:=0) b hb trivial (h _ w ⟨cJ,rfl,λt v d=> ?_⟩ e));obtain⟨_,a⟩:=aNk args 0 t v d;simp only[yx] at a;have ci:=(gp.1 a).1;rw[<-a];simp[Bw,ci]
end
end
section
variable {P:Program} {n:Nd} {B:Nat} {w0 w00:World} {F:Exit->Act->World->Prop} {L:Env} {R:List Row}
section
variable {m gf N l0:Nat} {pl:List Nat} {assign body:Code} {xd:World->Prop} {f:Nat->AG} {ds:List Deferred} {g:Operand} {k:IntKind} {Rs X T Y:List Row} {vals:AG} {ls:AD} {w:World}
theorem aQq {σ:Type} {lb:Array Value} (it:Iter P gf lb xd N f)
  (yp:pl.all (λp=>Nat.blt p m)=true) (ua: ∀k,(f k).length=pl.length) (Rx:Nat->σ->List Row) (J:Nat->σ->Prop) (uv: ∀k s w,J k s->Hp B w0 w (Rx k s)->xd w)
  (round: ∀l k s S,k<N->J k s->Below B w0 S->W P ⟨m,[],some l⟩ B S assign ⟨λL' R'=> ∀q,Below B w0 q->(∃rc,q.heap[l]? =some (.loop rc))->W P ⟨m,[],some l⟩ B q body ⟨λ_ n9=> ∃u,J (k+1) u/\ ∀T w,Hp B T w n9->Hp B T w (Rx (k+1) u),λ_ _=>False,λ_ _ _=>False⟩ L' R',λ_ _=>False,λ_ _ _=>False⟩ (prm pl (f k) L) (Rx k s))
  {l:Nat} {rec:LoopState->Loop} {fn:FuncId} {t:Array Value} {Df:Nat} (g:rec=λst=> {state:=st,pending:=none,fn,tmps:=t,params:=pl.toArray,assign,body,defers:=Df}) (ht:Sat ⟨m,[],some l⟩ L {tmps:=t,defers:=[]}) (Zo:B<=l) (zc:w0.heap.size<=l) (X:World->Prop)
  (D: ∀W b R R',X W->Hp B w0 W R->Hp B W b R'->X b) (Yp: ∀W o,X W->X (W.putObj l o)) {i:World} (Nq:i.heap[l]? =some (.loop (rec .ready))) (F:X i) {Q:σ} (Md:J 0 Q) (ti:Hp B w0 i (Rx 0 Q)):
  CallsIn Fence.wide 0 P gf (#[.func (.yield l) #[] #[]]++lb) i λe b=>(∃v,e= .returned v)/\ ∃s,J N s/\Hp B w0 b (Rx N s)/\b.heap[l]? =some (.loop (rec .ready))/\X b:=by
 refine it l (λk W=> ∃s,J k s/\Hp B w0 W (Rx k s)/\W.heap[l]? =some (.loop (rec .ready))/\X W) i (λk W ⟨s,j,hp,_⟩=>uv k s W j hp) (λk W d ⟨s,j,hp,hl,M⟩ hd=>⟨s,j,hp.drawn d hd,hl,D _ _ _ _ M hp (hp.rebase.drawn d hd)⟩) ?_ ⟨Q,Md,ti,Nq,F⟩;rintro k W hk ⟨s,j,hp,hl,M⟩;have hy:=run_yield (P:=P) (args:=(f k).toArray) hl (by rw[g];simp[ua k])
 have j5:Sat ⟨m,[],some l⟩ (prm pl (f k) L) {tmps:=(rec .ready).params.zip (f k).toArray|>.foldl (λt (p,v)=>t.setIfInBounds p v) (rec .ready).tmps,defers:=[]}:=by
  rw[g];simpa using Sat.prm pl (f k) yp ht
 refine⟨fn,_,assign,body,by rw[hy,g],roundIn_of_wpIn trivial ?_⟩;refine Ba ((round l k s W hk j hp.below) _ _ (by rw[g] at j5;exact j5) hp.rebase) ?_;rintro e a1 Y a;cases e with
 | normal=>
  obtain⟨L',R',ge,A,hb⟩:=a;have y:=A.late.2 _ _ hl rfl;have Oq:=hp.comp A;have ci:=(gu.1 y).1;have H:=run_beginRound (P:=P) y (by rw[g]);refine⟨_,H,?_⟩;have r:Hp B w0 (Y.putObj l (.loop {rec .ready with state:= .busy})) R':=Oq.putObj y rfl _ Zo zc;have yk:(Y.putObj l (.loop {rec .ready with state:= .busy})).heap[l]? =some (.loop {rec .ready with state:= .busy}):=World.putObj_heap_same ci;have Vu:=Yp _ (.loop {rec .ready with state:= .busy}) (D _ _ _ _ M hp A);refine Ba (hb _ r.below ⟨_,yk⟩ a1 _ ge r.rebase) ?_;rintro e a3 q a;cases e with
  | normal=>
   obtain⟨L3,R3,_,O,u,C,Sg⟩:=a;have x:=O.late.2 _ _ yk rfl;have K:=run_endRound (P:=P) none x;refine⟨_,_,K,rfl,u,C,?_,?_,?_⟩
   ·exact(r.comp (Sg _ _ O)).putObj x rfl _ Zo zc
   ·rw [World.putObj_heap_same (gu.1 x).1,g];rfl
   exact Yp _ _ (D _ _ _ _ Vu r O)
  |ret=>obtain⟨_,_,_,_,h⟩:=a;exact h.elim
  |exit id=>obtain⟨_,_,_,_,h⟩:=a;exact h.elim
  |goto t=>exact a.elim
  |panic ch=>exact a.elim
  |outgrown=>exact a.elim
 |ret=>obtain⟨_,_,_,_,h⟩:=a;exact h.elim
 |exit id=>obtain⟨_,_,_,_,h⟩:=a;exact h.elim
 |goto t=>exact a.elim
 |panic ch=>exact a.elim
 |outgrown=>exact a.elim
theorem aZn {σ:Type} {gf:Nat} {A:Array Value} (hg:ev L g=some (.func (.func gf) #[] A))
  (Mg: ∀args w,(callFunc gf args).run P w= .ok (.enter gf args) w) (it:Iter P gf A xd N f)
  (yp:pl.all (λp=>Nat.blt p m)=true) (ua: ∀k,(f k).length=pl.length) (j:Gd B w00 ⟨m,ds,none⟩ w0) (Rx:Nat->σ->List Row) (J:Nat->σ->Prop) (h0: ∃s,J 0 s/\ ∀w,Hp B w0 w R->Hp B w0 w (Rx 0 s)) (uv: ∀k s w,J k s->Hp B w0 w (Rx k s)->xd w)
  (round: ∀l k s i,k<N->J k s->Below B w0 i->W P ⟨m,[],some l⟩ B i assign ⟨λL' R'=> ∀H,Below B w0 H->(∃rc,H.heap[l]? =some (.loop rc))->W P ⟨m,[],some l⟩ B H body ⟨λ_ n9=> ∃s',J (k+1) s'/\ ∀Y w,Hp B Y w n9->Hp B Y w (Rx (k+1) s'),λ_ _=>False,λ_ _ _=>False⟩ L' R',λ_ _=>False,λ_ _ _=>False⟩ (prm pl (f k) L) (Rx k s))
  (after: ∀K D s,J N s->Below B w0 K->Gd B w00 ⟨m,mark D::ds,none⟩ K->VN ⟨m,mark D::ds,none⟩ B K F L (Rx N s)):
  V P ⟨m,ds,none⟩ B w0 (.rangeFunc g pl.toArray assign body) F L R:=by
 intro a w hs hp;refine wpIn_rangeFunc ?_;intro fn _;obtain⟨rec,C⟩: ∃rec:LoopState->Loop,rec=λst=> {state:=st,pending:=none,fn,tmps:=a.tmps,params:=pl.toArray,assign,body,defers:=w.heap.size}:=⟨_,rfl⟩;obtain⟨b,r⟩: ∃b,(w.alloc (.deferred (some []))).alloc (.loop (rec .ready))=b:=⟨_,rfl⟩
 have Nq:b.heap[w.heap.size+1]? =some (.loop (rec .ready)):=by
  rw[<-r];have:=World.alloc_heap_new (w.alloc (.deferred (some []))) (.loop (rec .ready));rwa[World.size_alloc] at this
 have O:b.heap[w.heap.size]? =some (.deferred (some [])):=by
  rw[<-r];exact(Below.heap_alloc _ _ _ cD).trans (World.alloc_heap_new w _)
 obtain⟨s0,Md,Qm⟩:=h0;have ti:Hp B w0 b (Rx 0 s0):=by rw[<-r];exact((Qm w hp).allocObj _).allocObj _
 have Zr:w0.heap.size<=w.heap.size:=hp.below.size;have Zs:=hp.base;refine⟨w.heap.size+1,[mark w.heap.size],b,{target:= .fn (.func gf) A,args:= #[.func (.yield (w.heap.size+1)) #[] #[]]},b,gf,#[.func (.yield (w.heap.size+1)) #[] #[]]++A,b,?_,?_,λ_ _=>trivial,?_,λh=>(by cases h),?_⟩
 ·rw[<-r,C];exact run_enterLoop_outer _ _ _ _ _
 ·simp only[resolve,hs.ev hg];simp[go_sem]
 ·simp[invoke,go_sem,Mg]
 refine CallsIn.mono (aQq (w0:=w0) (m:=m) (L:=L) it yp ua Rx J uv round (l:=w.heap.size+1) (rec:=rec) C ⟨hs.size,rfl,hs.val⟩ G G (λW=>W.heap[w.heap.size]? =some (.deferred (some []))/\Late w W) ?_ ?_ Nq ⟨O,?_⟩ Md ti) ?_
 ·rintro W W' R R' ⟨hk,hl⟩ _ y;exact⟨y.late.2 _ _ hk rfl,hl.trans y.late⟩
 ·rintro W o ⟨hk,hl⟩;refine⟨(World.putObj_heap_other G).trans hk,hl.1,λk q u hc=> ?_⟩;rw[World.putObj_heap_other (λe=>by have:=(gu.1 u).1;omega)];exact hl.2 k q u hc
 ·rw [<-r];exact(Late.alloc _ _).trans (Late.alloc _ _)
 rintro e i ⟨⟨v,rfl⟩,s,hJ,pn,yk,v7,X⟩;have i7:=run_endLoop (P:=P) yk (by rw[C];simp);have T:(rec .ready).pending=none:=by rw[C]
 refine⟨none,i.putObj (w.heap.size+1) (.loop {rec .ready with state:= .exhausted}),i7.trans (bi (λp=>Result.ok p _) T),?_⟩;have x:Hp B w0 (i.putObj (w.heap.size+1) (.loop {rec .ready with state:= .exhausted})) (Rx N s):=pn.putObj yk rfl _ G G;have Ps:(i.putObj (w.heap.size+1) (.loop {rec .ready with state:= .exhausted})).heap[w.heap.size]? =some (.deferred (some [])):=(World.putObj_heap_other G).trans v7
 have Uv:Late w (i.putObj (w.heap.size+1) (.loop {rec .ready with state:= .exhausted})):=⟨X.1,λk q u hc=>by
  rw[World.putObj_heap_other (λe=>by have:=(gu.1 u).1;omega)]
  exact X.2 k q u hc⟩
 have j4:=hs.defers;refine after _ w.heap.size s hJ x.below ⟨j.below.trans x.below,j.late.trans x.late,xe.2 ⟨λgs=> ?_,j.nodup⟩,λd Q=> ?_⟩ _ _ ⟨hs.size,by simp only[ou,j4],hs.val⟩ x.rebase
 ·obtain ⟨D,S,_,_,M⟩:=j.marks _ gs;have h1:=(gu.1 M).1;simp only[mark,Deferred.mk.injEq,Target.collected.injEq,Az] at S;omega
 rcases il.1 Q with rfl|Q
 ·exact⟨_,rfl,G,by have:=j.below.size;omega,Ps⟩
 obtain ⟨D,S,h1,y,M⟩:=j.marks _ Q;exact⟨D,S,h1,y,x.late.2 _ _ M rfl⟩
theorem aTq {o q r s:Type} {gf:Nat} {A:Array Value} (T:ev L g=some (.func (.func gf) #[] A))
  (K: ∀args w,(callFunc gf args).run P w= .ok (.enter gf args) w) (X:Iter P gf A xd N f)
  (yp:pl.all (λp=>Nat.blt p m)=true) (Y: ∀k,(f k).length=pl.length) (S:Gd B w00 ⟨m,ds,none⟩ w0) (Rx:Nat->o->q->r->s->List Row) (J:Nat->o->q->r->s->Prop)
  (O: ∃a b c d,J 0 a b c d/\ ∀w,Hp B w0 w R->Hp B w0 w (Rx 0 a b c d)) (uv: ∀k a b c d w,J k a b c d->Hp B w0 w (Rx k a b c d)->xd w)
  (round: ∀l k a b c d x,k<N->J k a b c d->Below B w0 x->W P ⟨m,[],some l⟩ B x assign ⟨λL' R'=> ∀u,Below B w0 u->(∃rc,u.heap[l]? =some (.loop rc))->W P ⟨m,[],some l⟩ B u body ⟨λ_ C=> ∃e i j n,J (k+1) e i j n/\ ∀y w,Hp B y w C->Hp B y w (Rx (k+1) e i j n),λ_ _=>False,λ_ _ _=>False⟩ L' R',λ_ _=>False,λ_ _ _=>False⟩ (prm pl (f k) L) (Rx k a b c d))
  (after: ∀v D a b c d,J N a b c d->Below B w0 v->Gd B w00 ⟨m,mark D::ds,none⟩ v->VN ⟨m,mark D::ds,none⟩ B v F L (Rx N a b c d)):
  V P ⟨m,ds,none⟩ B w0 (.rangeFunc g pl.toArray assign body) F L R:=by
 obtain⟨a,b,c,d,h1,Q⟩:=O;refine aZn (σ:=o × q × r × s) T K X yp Y S (λk p=>Rx k p.1 p.2.1 p.2.2.1 p.2.2.2) (λk p=>J k p.1 p.2.1 p.2.2.1 p.2.2.2) ⟨(a,b,c,d),h1,Q⟩ (λk p=>uv k p.1 p.2.1 p.2.2.1 p.2.2.2) (λl k p x hk hp hb=>iP (round l k p.1 p.2.1 p.2.2.1 p.2.2.2 x hk hp hb) ?_ (λ_ _ h=>h) (λ_ _ _ h=>h)) (λv D p=>after v D p.1 p.2.1 p.2.2.1 p.2.2.2);intro L' R' h u M H;refine iP (h u M H) ?_ (λ_ _ h=>h) (λ_ _ _ h=>h);rintro _ C ⟨e,i,j,n,g1,g2⟩;exact⟨(e,i,j,n),g1,g2⟩
theorem bJd {σ:Type} {gf:Nat} {j:Array Value} {Q:fP} (S:ev L g=some (.func (.func gf) #[] j))
  (F: ∀args w,(callFunc gf args).run P w= .ok (.enter gf args) w) (X:Iter P gf j xd N f)
  (yp:pl.all (λp=>Nat.blt p m)=true) (ua: ∀k,(f k).length=pl.length) (zc: ∃rc,w0.heap[l0]? =some (.loop rc)) (Rx:Nat->σ->List Row) (J:Nat->σ->Prop) (M: ∃s,J 0 s/\ ∀w,Hp B w0 w R->Hp B w0 w (Rx 0 s)) (uv: ∀k s w,J k s->Hp B w0 w (Rx k s)->xd w)
  (round: ∀l k s i,k<N->J k s->Below B w0 i->W P ⟨m,[],some l⟩ B i assign ⟨λL' R'=> ∀r,Below B w0 r->(∃rc,r.heap[l]? =some (.loop rc))->W P ⟨m,[],some l⟩ B r body ⟨λ_ n9=> ∃y,J (k+1) y/\ ∀x w,Hp B x w n9->Hp B x w (Rx (k+1) y),λ_ _=>False,λ_ _ _=>False⟩ L' R',λ_ _=>False,λ_ _ _=>False⟩ (prm pl (f k) L) (Rx k s))
  (after: ∀s,J N s->Q.nrm L (Rx N s)):
  W P ⟨m,[],some l0⟩ B w0 (.rangeFunc g pl.toArray assign body) Q L R:=by
 obtain⟨r0,C⟩:=zc;intro a w hs hp;have d:=hp.late.2 _ _ C rfl;refine wpIn_rangeFunc ?_;intro fn _;obtain⟨rec,o⟩: ∃rec:LoopState->Loop,rec=λst=> {state:=st,pending:=none,fn,tmps:=a.tmps,params:=pl.toArray,assign,body,defers:=r0.defers}:=⟨_,rfl⟩;obtain⟨b,q⟩: ∃b,w.alloc (.loop (rec .ready))=b:=⟨_,rfl⟩;have H:b.heap[w.heap.size]? =some (.loop (rec .ready)):=by rw[<-q];exact World.alloc_heap_new w _
 obtain⟨s0,D,K⟩:=M;have ti:Hp B w0 b (Rx 0 s0):=by rw[<-q];exact(K w hp).allocObj _
 have Zr:w0.heap.size<=w.heap.size:=hp.below.size;have Zs:=hp.base;refine⟨w.heap.size,[],b,{target:= .fn (.func gf) j,args:= #[.func (.yield w.heap.size) #[] #[]]},b,gf,#[.func (.yield w.heap.size) #[] #[]]++j,b,?_,?_,λ_ _=>trivial,?_,λh=>(by cases h),?_⟩
 ·rw[<-q,o];exact run_enterLoop_inner d _ _ _ _ _
 ·simp only[resolve,hs.ev S];simp[go_sem]
 ·simp[invoke,go_sem,F]
 refine CallsIn.mono (aQq (w0:=w0) (m:=m) (L:=L) X yp ua Rx J uv round (l:=w.heap.size) (rec:=rec) o ⟨hs.size,rfl,hs.val⟩ G G (λ_=>True) (λ_ _ _ _ _ _ _=>trivial) (λ_ _ _=>trivial) H trivial D ti) ?_;rintro e i ⟨⟨v,rfl⟩,s,O,pn,A,_⟩;have T:=run_endLoop (P:=P) A (by rw[o];simp);have u:(rec .ready).pending=none:=by rw[o]
 refine⟨none,i.putObj w.heap.size (.loop {rec .ready with state:= .exhausted}),T.trans (bi (λp=>Result.ok p _) u),?_⟩;have Y:=hs.defers;exact⟨L,Rx N s,⟨hs.size,by simp only[ig,Y],hs.val⟩,pn.putObj A rfl _ G G,after s O⟩
theorem aZg {o q r s:Type} {gf:Nat} {y:Array Value} {Q:fP} (M:ev L g=some (.func (.func gf) #[] y))
  (D: ∀args w,(callFunc gf args).run P w= .ok (.enter gf args) w) (O:Iter P gf y xd N f)
  (X:pl.all (λp=>Nat.blt p m)=true) (S: ∀k,(f k).length=pl.length) (Y: ∃rc,w0.heap[l0]? =some (.loop rc)) (Rx:Nat->o->q->r->s->List Row) (J:Nat->o->q->r->s->Prop)
  (H: ∃a b c d,J 0 a b c d/\ ∀w,Hp B w0 w R->Hp B w0 w (Rx 0 a b c d)) (T: ∀k a b c d w,J k a b c d->Hp B w0 w (Rx k a b c d)->xd w)
  (round: ∀l k a b c d v,k<N->J k a b c d->Below B w0 v->W P ⟨m,[],some l⟩ B v assign ⟨λL' R'=> ∀u,Below B w0 u->(∃rc,u.heap[l]? =some (.loop rc))->W P ⟨m,[],some l⟩ B u body ⟨λ_ A=> ∃e i j n,J (k+1) e i j n/\ ∀x w,Hp B x w A->Hp B x w (Rx (k+1) e i j n),λ_ _=>False,λ_ _ _=>False⟩ L' R',λ_ _=>False,λ_ _ _=>False⟩ (prm pl (f k) L) (Rx k a b c d))
  (after: ∀a b c d,J N a b c d->Q.nrm L (Rx N a b c d)):
  W P ⟨m,[],some l0⟩ B w0 (.rangeFunc g pl.toArray assign body) Q L R:=by
 obtain⟨a,b,c,d,h1,K⟩:=H;refine bJd (σ:=o × q × r × s) M D O X S Y (λk p=>Rx k p.1 p.2.1 p.2.2.1 p.2.2.2) (λk p=>J k p.1 p.2.1 p.2.2.1 p.2.2.2) ⟨(a,b,c,d),h1,K⟩ (λk p=>T k p.1 p.2.1 p.2.2.1 p.2.2.2) (λl k p v hk hp hb=>iP (round l k p.1 p.2.1 p.2.2.1 p.2.2.2 v hk hp hb) ?_ (λ_ _ h=>h) (λ_ _ _ h=>h)) (λp=>after p.1 p.2.1 p.2.2.1 p.2.2.2);intro L' R' h u F C;refine iP (h u F C) ?_ (λ_ _ h=>h) (λ_ _ _ h=>h);rintro _ A ⟨e,i,j,n,g1,g2⟩;exact⟨(e,i,j,n),g1,g2⟩
def SlR (k:IntKind) (Rs:List Row) (vals:AG) (ls:AD):Prop:=vals.length=ls.length/\ ∀j:Nat,j<ls.length-> ∃(A:AF) (c:Nat),vals[j]? =some (.slice A (ls.getD j []).length c)/\ ∀(B:Nat) (w0 w:World),Hp B w0 w Rs->Rd w A (ls.getD j []).length c 1 (ints k (ls.getD j []))
theorem SlR.nil (k:IntKind):SlR k [] [] []:=⟨rfl,λj a=>by simp at a⟩
theorem SlR.snoc {A:AF} {n c e:Nat} {l:AH} {ro:Bool} (h:SlR k Rs vals ls) (hn:n=l.length):SlR k (⟨e,1,A,n,c,ints k l,ro⟩::Rs) (vals++[.slice A n c]) (ls++[l]):=by
 subst hn;refine⟨by simp[h.1],λj o=> ?_⟩;rcases gm j ls.length with g|g
 ·obtain ⟨d,c',h1,m⟩:=h.2 j g
  have a:(ls++[l]).getD j []=ls.getD j []:=by
   rw[af,af,jh g]
  rw[a];exact⟨d,c',by rw[jh (by rw[h.1];exact g)];exact h1,λB w0 w b=>m B w0 w b.tail⟩
 have i:j=ls.length:=by simp at o;omega
 subst i;have a:(ls++[l]).getD ls.length []=l:=by simp[af]
 rw[a];refine⟨A,c,by rw[<-h.1];simp,λB w0 w b=> ?_⟩;exact rdr (R:=⟨e,1,A,l.length,c,ints k l,ro⟩::Rs) 0 rfl w b
theorem SlR.at (h:SlR k Rs vals ls) {i:Int} (a:0<=i) (h1:i<ls.length): ∃(A:AF) (c:Nat),vals[i.toNat]? =some (.slice A (rdl ls i).length c)/\ ∀(B:Nat) (w0 w:World),Hp B w0 w Rs->Rd w A (rdl ls i).length c 1 (ints k (rdl ls i)):=h.2 i.toNat G
theorem Hp.left (h:Hp B w0 w (X++T)):Hp B w0 w X:=h.sublist (List.sublist_append_left X T)
theorem Hp.toTail0 (h:Hp B w0 w ((X++Rs)++Y)):Hp B w0 w (X++(Y++Rs)):=by
 refine h.perm ?_;rw[dx];exact ym X ul
theorem bZw {Q:fP} {c:Code} {d:Nat} {v:Value} (h:lk L d=some v) (k:W P n B w0 c Q ((d,v)::L) R):W P n B w0 c Q L R:=λa w hs hp=>k a w ⟨hs.size,hs.defers,λt u b=>by
 unfold lk at b;cases e:Nat.beq d t with
 |true=>rw[e] at b;simp only[cond_true] at b;obtain rfl:=um e;exact hs.val _ _ (h.trans b)
 |false=>rw[e] at b;simp only[cond_false] at b;exact hs.val _ _ b⟩ hp
theorem Hp.toTail (h:Hp B w0 w ((X++Rs)++(Y++T))):Hp B w0 w (X++(Y++(Rs++T))):=by
 refine h.perm ?_;rw[dx];refine ym X ?_;rw[<-dx,<-dx];exact Bf T ul
end
end
end Go.Eng
