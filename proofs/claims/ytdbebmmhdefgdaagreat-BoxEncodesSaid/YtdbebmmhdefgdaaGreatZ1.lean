/- Own work. -/
import Derived.WalkKit
import Derived.Maps.AppendAt
import Derived.Deep.LoopGhost
import Derived.Orders
import Derived.OrdersIn
import Derived.TacticsIn
import Derived.Sort.LoopGhostIn
import Derived.Laws.BytesArg
import Derived.Lib.ConvBytes
import Derived.Laws.MakeOwn
import Derived.Laws.OwnMore
import Derived.Laws.Slices
import Derived.OrdersHeld
import Derived.Test.YtdbebmmhdefgdaaGreatProg
import Derived.KernelRfl
import Derived.ProofKit
import Derived.OpenShut
import Derived.Laws.LoneSync
import Derived.Deep.Matrix
import Derived.Laws.Rows
import Derived.SizedLaws
import Derived.Shelf.SlSortCmp.WholeK
set_option linter.unusedVariables false
set_option linter.unusedSimpArgs false
set_option maxHeartbeats 8000000
namespace Go
abbrev aa:=@Go.Proofs.Tryz.underlying52
abbrev af:=@Go.Proofs.Tryz.underlying22
abbrev ah.{u}:=@List.length_append.{u}
abbrev ai.{u}:=@List.getD_eq_getElem?_getD.{u}
abbrev ak:=@Nat.le_of_ble_eq_true
abbrev au:=@Go.Proofs.Tryz.underlying3
abbrev av.{u}:=@List.getElem?_eq_getElem.{u}
abbrev ax.{u}:=@List.length_take.{u}
abbrev ay:=@Go.Proofs.Tryz.underlying23
abbrev az.{u}:=@List.length_drop.{u}
abbrev bg:=@Go.Proofs.Tryz.underlying27
abbrev bi.{u}:=@List.take_of_length_le.{u}
abbrev bn:=@Go.Proofs.Tryz.underlying5
abbrev bq.{u,v}:=@List.length_map.{u,v}
abbrev bu.{u,v}:=@congrArg.{u,v}
abbrev bz:=@Int.lt_or_le
abbrev cz:=@Int.toNat_natCast
abbrev df.{u}:=@if_neg.{u}
abbrev dh.{u}:=@List.length_replicate.{u}
abbrev di.{u}:=@if_pos.{u}
abbrev dm:=@Go.Proofs.Tryz.underlying25
abbrev dn.{u}:=@List.length_cons.{u}
abbrev dw.{u}:=@List.eq_nil_of_length_eq_zero.{u}
abbrev dx:=@Nat.le_refl
abbrev dz.{u}:=@List.mem_append.{u}
abbrev ed.{u}:=@List.pairwise_iff_getElem.{u}
abbrev ek:=@Nat.eq_zero_or_pos
abbrev fe:=@Go.Proofs.Tryz.underlying112
abbrev fo.{u}:=@List.mem_cons_of_mem.{u}
abbrev fw.{u}:=@List.getElem?_eq_some_iff.{u}
abbrev gm:=@Nat.lt_or_ge
abbrev gp.{u}:=@Array.getElem?_eq_some_iff.{u}
abbrev gq.{u}:=@List.append_assoc.{u}
abbrev gu.{u}:=@List.mem_of_getElem?.{u}
abbrev gy.{u}:=@List.take_append_drop.{u}
abbrev gz.{u}:=@List.mem_iff_getElem.{u}
abbrev ib.{u}:=@List.length_singleton.{u}
abbrev ic.{u}:=@List.mem_singleton.{u}
abbrev ig:=@Go.Proofs.Tryz.underlying87
abbrev ii.{u,v}:=@List.mem_map.{u,v}
abbrev ik.{u,v}:=@List.pairwise_map.{u,v}
abbrev il:=@decide_eq_true_iff
abbrev iv.{u,v}:=@List.map_append.{u,v}
abbrev iw.{u,v}:=@Option.map_eq_some_iff.{u,v}
abbrev iy:=@Int.emod_lt_of_pos
abbrev ja.{u}:=@List.pairwise_cons.{u}
abbrev jb.{u}:=@List.length_nil.{u}
abbrev jc.{u}:=@List.mem_cons.{u}
abbrev jd.{u}:=@List.nil_append.{u}
abbrev je.{u}:=@Option.some.inj.{u}
abbrev jf.{u}:=@List.cons_append.{u}
abbrev jg:=@Go.Proofs.Tryz.underlying228
abbrev jh.{u}:=@List.append_nil.{u}
abbrev ji.{u}:=@List.getElem?_append_right.{u}
abbrev jk:=@Int.lt_trichotomy
abbrev jl.{u}:=@List.getElem?_append_left.{u}
abbrev jm:=@Go.Result.andThen_ok
abbrev jo:=@Go.Proofs.Tryz.underlying230
abbrev jq:=@Go.Sem.run_bind
abbrev jr:=@Go.Proofs.Tryz.underlying253
abbrev jv:=@Int.emod_nonneg
abbrev jw:=@List.mem_range
abbrev jy.{u}:=@Array.length_toList.{u}
abbrev kg.{u}:=@List.pairwise_append.{u}
abbrev ko.{u,v}:=@List.map_cons.{u,v}
abbrev ku:=@Go.Value.slice.injEq
abbrev kv.{u,v}:=@Option.map_some.{u,v}
abbrev ky:=@Int.emod_eq_of_lt
abbrev kz.{u}:=@List.filter_cons_of_neg.{u}
abbrev lc.{u}:=@List.mem_of_mem_take.{u}
abbrev lh:=@Nat.mod_eq_of_lt
abbrev ll.{u}:=@List.drop_eq_getElem_cons.{u}
abbrev lm:=@Int.toNat_of_nonneg
abbrev lq.{u}:=@List.flatten_append.{u}
abbrev lu.{u}:=@List.getElem?_eq_none.{u}
abbrev lv.{u}:=@List.Pairwise.imp_of_mem.{u}
abbrev mf:=@Int.le_refl
abbrev mg.{u}:=@List.getElem_mem.{u}
abbrev mh:=@Go.run_underlying
abbrev mo:=@Nat.add_assoc
abbrev mr.{u}:=@Option.some.injEq.{u}
abbrev ng:=@Go.Sem.run_pure
abbrev ni:=@decide_eq_true
abbrev nk.{u}:=@List.length_reverse.{u}
abbrev nu.{u}:=@List.mem_filter.{u}
abbrev ny.{u}:=@List.mem_of_mem_drop.{u}
abbrev nz.{u}:=@List.filter_cons_of_pos.{u}
abbrev og:=@Nat.zero_add
abbrev oh.{u}:=@List.singleton_append.{u}
abbrev ol.{u,v}:=@List.getElem?_map.{u,v}
abbrev oq:=@Int.mul_le_mul_of_nonneg_right
abbrev ou.{u}:=@List.getElem?_take.{u}
abbrev ow.{u}:=@List.take_length.{u}
abbrev oz.{u}:=@Option.getD_some.{u}
abbrev pg:=@Go.Proofs.Tryz.underlying352
abbrev pq:=@Go.Proofs.Tryz.underlying360
abbrev pu.{u}:=@List.pairwise_singleton.{u}
abbrev pz:=@Go.Proofs.Tryz.underlying269
abbrev qa:=@decide_eq_false
abbrev qb.{u}:=@Array.getElem?_eq_getElem.{u}
abbrev qc.{u}:=@List.length_flatten.{u}
abbrev qd.{u}:=@List.drop_of_length_le.{u}
abbrev qf:=@Nat.mul_one
abbrev qg:=@Nat.zero_le
abbrev qh:=@Go.Proofs.Tryz.underlying256
abbrev qi:=@Bool.and_eq_true
abbrev qj.{u}:=@List.flatten_cons.{u}
abbrev ql.{u}:=@List.size_toArray.{u}
abbrev qm.{u}:=@List.take_add_one.{u}
abbrev qo.{u,v,w}:=@List.map_map.{u,v,w}
abbrev qp:=@Nat.add_zero
abbrev qw:=@Go.Proofs.Tryz.underlying123
abbrev qx.{u,v}:=@List.map_nil.{u,v}
abbrev qy:=@Nat.le_trans
abbrev qz.{u}:=@List.getElem?_drop.{u}
abbrev rf.{u}:=@List.getElem?_take_of_lt.{u}
abbrev rq:=@Nat.sub_add_cancel
abbrev ry:=@Go.Proofs.Tryz.underlying281
abbrev rz.{u}:=@List.sublist_flatten_of_mem.{u}
abbrev si.{u}:=@Array.getElem?_toList.{u}
abbrev sj:=@decide_eq_decide
abbrev su:=@Int.mul_assoc
abbrev sw:=@Go.Proofs.Tryz.underlying250
abbrev tq.{u}:=@List.filter_append.{u}
abbrev uf.{u,v}:=@List.map_toArray.{u,v}
abbrev ug.{u}:=@List.mem_flatten.{u}
abbrev uh.{u}:=@List.sum_cons.{u}
abbrev ui.{u}:=@List.append_toArray.{u}
abbrev uj.{u}:=@List.filter_sublist.{u}
abbrev uk.{u}:=@List.perm_append_comm.{u}
abbrev ul.{u}:=@List.ext_getElem?.{u}
abbrev um:=@Nat.add_comm
abbrev uo.{u,v,w}:=@getElem!_pos.{u,v,w}
abbrev uq:=@decide_eq_false_iff_not
abbrev ut:=@Nat.mul_le_mul_right
abbrev uu:=@Go.Proofs.Tryz.underlying277
abbrev uy:=@Go.Proofs.Tryz.underlying279
abbrev uz:=@Int.pow_zero
abbrev ve.{u}:=@List.Sublist.length_le.{u}
abbrev vg.{u}:=@List.ext_getElem.{u}
abbrev vk.{u}:=@List.not_mem_nil.{u}
abbrev vo.{u}:=@Array.toList_append.{u}
abbrev vv.{u,v}:=@List.map_congr_left.{u,v}
abbrev vw.{u}:=@Array.getElem?_modify.{u}
abbrev vz:=@Int.pow_nonneg
abbrev wh:=@Int.pow_succ
abbrev wo.{u}:=@List.nodup_cons.{u}
abbrev wu:=@Bool.false_eq_true
abbrev ww.{u}:=@Array.replicate_succ.{u}
abbrev wz.{u}:=@Array.replicate_zero.{u}
abbrev xc.{u}:=@List.all_eq_true.{u}
abbrev xe:=@List.nodup_range
abbrev xg:=@Go.Proofs.Tryz.underlying262
abbrev xh:=@Decidable.not_not
abbrev xk.{u}:=@List.drop_eq_nil_of_le.{u}
abbrev xm.{u}:=@List.getElem?_set.{u}
abbrev xq.{u}:=@List.getElem_take.{u}
abbrev xu.{u}:=@List.nodup_append.{u}
abbrev xw:=@Nat.lt_trichotomy
abbrev xx.{u}:=@if_false.{u}
abbrev xz:=@Nat.add_mul
abbrev yc.{u}:=@List.length_filter_le.{u}
abbrev yf:=@Nat.eq_of_beq_eq_true
abbrev yg.{u,v}:=@List.getElem_map.{u,v}
abbrev yh:=@Nat.mod_lt
abbrev yj:=@Int.add_zero
abbrev yl:=@Go.Proofs.Tryz.underlying117
abbrev ym:=@Go.Proofs.Tryz.underlying9
abbrev yo:=@List.length_range
abbrev yt.{u}:=@List.push_toArray.{u}
abbrev yu:=@of_decide_eq_true
abbrev yw:=@List.getElem?_range
abbrev yx.{u}:=@Array.getD_eq_getD_getElem?.{u}
abbrev yz:=@Nat.sub_zero
abbrev za:=@Go.Proofs.Tryz.underlying4
abbrev zb:=@Int.natCast_emod
abbrev ze.{u}:=@List.mem_reverse.{u}
abbrev zf:=@BitVec.toNat_ofInt
abbrev zg:=@List.getElem_range
abbrev zh.{u}:=@List.take_zero.{u}
abbrev zi:=@Nat.mod_eq_sub_mod
abbrev zk:=@Int.ediv_lt_of_lt_mul
abbrev zl.{u}:=@List.Perm.append_left.{u}
abbrev zm:=@List.range_succ
abbrev zo:=@Nat.min_eq_left
abbrev zq:=@Int.mul_one
abbrev zt:=@Int.pow_add
abbrev zu.{u}:=@List.drop_sublist.{u}
abbrev zw.{u,v}:=@List.flatMap_cons.{u,v}
abbrev zx.{u}:=@List.getElem_drop.{u}
abbrev zy:=@Nat.mul_comm
abbrev zz:=@decide_eq_true_eq
abbrev Aa:=@Go.run_sliceAt_slice
abbrev Ab:=@Go.Proofs.Tryz.underlying84
abbrev Ad.{u,v}:=@Prod.mk.injEq.{u,v}
abbrev Ae:=@Go.Proofs.Tryz.underlying146
abbrev Af:=@Int.mul_nonneg
abbrev Ag.{u}:=@List.getElem?_replicate.{u}
abbrev Ah.{u}:=@List.length_eq_zero_iff.{u}
abbrev Ai.{u,v}:=@List.mem_flatMap.{u,v}
abbrev Aj:=@and_true
abbrev Ak:=@true_and
abbrev Al:=@Int.le_ediv_iff_mul_le
abbrev Am.{u}:=@Option.toList_some.{u}
abbrev Ao:=@Go.Proofs.Tryz.underlying167
abbrev Ap.{u}:=@Array.getElem?_setIfInBounds.{u}
abbrev Ar:=@Bool.or_eq_true
abbrev Av:=@Int.natCast_mul
abbrev Ay.{u,v}:=@Option.map_none.{u,v}
abbrev Az:=@Go.Addr.mk.injEq
abbrev Ba:=@Go.callsIn_of_wp
abbrev Bb:=@Go.wpIn_mono
abbrev Bc.{u}:=@Array.getElem?_append.{u}
abbrev Be:=@Go.Proofs.Tryz.zeroValue167
abbrev Bf:=@Int.fdiv_eq_ediv_of_nonneg
abbrev Bg.{u}:=@List.replicate_succ'.{u}
abbrev Bh:=@Nat.mul_le_mul
abbrev Bi:=@Nat.one_mul
abbrev Bj:=@Int.le_of_lt
abbrev Bl:=@Int.natCast_zero
abbrev Bn:=@Go.IntKind.wrap_i64
abbrev Bo:=@Nat.le_add_right
abbrev Bp:=@Nat.succ_mul
abbrev Bq:=@Nat.zero_mul
abbrev Br:=@Go.Proofs.Tryz.underlying3
abbrev Bt.{u}:=@List.countP_eq_zero.{u}
abbrev Bu.{u}:=@List.filter_eq_self.{u}
abbrev Bv.{u,v}:=@List.flatMap_append.{u,v}
abbrev Bw.{u}:=@List.getElem_set_ne.{u}
abbrev Bz.{u}:=@List.eq_of_mem_replicate.{u}
abbrev Ca.{u}:=@List.length_erase_of_mem.{u}
abbrev Cb.{u,v}:=@List.map_take.{u,v}
abbrev Cc:=@UInt8.toNat_ofNat_of_lt'
abbrev Ce:=@Go.Proofs.Tryz.underlying114
abbrev Cf:=@Go.Proofs.Tryz.underlying167
abbrev Cg:=@Go.Proofs.Tryz.underlying248
abbrev Ch:=@Go.IntKind.wrap_u8
abbrev Ci.{u}:=@List.sum_append.{u}
abbrev Cj:=@Go.Result.ok.injEq
abbrev Ck:=@Go.Proofs.Tryz.zeroValue3
abbrev Cm:=@Int.lt_or_eq_of_le
abbrev Cn.{u}:=@List.mem_replicate.{u}
abbrev Co:=@Nat.lt_or_gt_of_ne
abbrev Cq:=@Nat.mul_div_cancel
abbrev Cr:=@Nat.pos_of_ne_zero
abbrev Cs:=@Go.Proofs.Tryz.underlying112
abbrev Cu:=@Go.Proofs.Tryz.underlying123
abbrev Cv.{u}:=@List.getElem?_cons_succ.{u}
abbrev Cw.{u,v}:=@Option.bind_eq_some_iff.{u,v}
abbrev Cx.{u}:=@List.set_eq_take_append_cons_drop.{u}
abbrev Cy.{u}:=@Array.getElem?_eq_none.{u}
abbrev Cz:=@Int.mul_comm
abbrev Da.{u}:=@List.Perm.append_right.{u}
abbrev Db.{u}:=@List.isEmpty_cons.{u}
abbrev Dc.{u}:=@List.length_pos_of_mem.{u}
abbrev De.{u}:=@List.not_of_lt_findIdx.{u}
abbrev Dg.{u}:=@List.reverse_perm.{u}
abbrev Dh.{u}:=@List.take_left.{u}
abbrev Di:=@Nat.le_mul_of_pos_left
abbrev Dj:=@Nat.sub_self
abbrev Dk:=@Go.Proofs.Tryz.sizeOf167
abbrev Dl:=@Go.Proofs.Tryz.zeroValue112
abbrev Dm:=@Go.Proofs.Tryz.zeroValue123
abbrev Dn:=@not_false_eq_true
abbrev Dp.{u}:=@List.replicate_append_replicate.{u}
abbrev Dq.{u}:=@List.countP_mono_left.{u}
abbrev Dr.{u}:=@List.set_append_right.{u}
abbrev Dt:=@Int.ediv_le_self
abbrev Du.{u,v}:=@List.map_reverse.{u,v}
abbrev Dv:=@Nat.and_two_pow_sub_one_eq_mod
abbrev Dw:=@Nat.div_eq_of_lt
abbrev Dx:=@Go.Proofs.Tryz.underlying0
abbrev Dy:=@Go.Proofs.Tryz.underlying4
abbrev Dz:=@Go.Proofs.Tryz.underlying5
abbrev Ea:=@Go.Proofs.Tryz.underlying9
abbrev Eb:=@Bool.not_true
abbrev Ec.{u}:=@List.all_cons.{u}
abbrev Ed:=@Go.Proofs.Tryz.isAgg167
abbrev Ee:=@Go.Proofs.Tryz.underlying185
abbrev Ef:=@Go.Proofs.Tryz.underlying350
abbrev Eg.{u}:=@Classical.not_forall.{u}
abbrev Eh:=@Int.mul_le_mul_of_nonneg_left
abbrev Ei:=@Int.pow_pos
abbrev Ej.{u}:=@List.findIdx_getElem.{u}
abbrev El.{u}:=@List.getElem_reverse.{u}
abbrev Em.{u}:=@List.mem_append_left.{u}
abbrev En.{u}:=@List.mem_erase_of_ne.{u}
abbrev Eo.{u}:=@List.reverse_reverse.{u}
abbrev Ep.{u}:=@List.take_append_of_le_length.{u}
abbrev Er:=@Nat.pow_le_pow_right
abbrev Es:=@Go.Proofs.Tryz.func36
abbrev Et:=@Int.ediv_nonneg
abbrev Eu:=@Int.min_eq_left
abbrev Ev:=@Int.natCast_pow
abbrev Ew.{u}:=@List.cons.injEq.{u}
abbrev Ex.{u}:=@List.length_set.{u}
abbrev Ey.{u}:=@List.take_left'.{u}
abbrev Ez:=@Go.Proofs.Tryz.zeroValue0
abbrev Fa:=@Go.Proofs.Tryz.zeroValue4
abbrev Fb:=@Go.Proofs.Tryz.zeroValue5
abbrev Fe:=@Go.Proofs.Tryz.zeroValue9
abbrev Ff.{u}:=@List.replicate_zero.{u}
abbrev Fg:=@Go.run_callFunc_extern
abbrev Fh.{u}:=@List.attach_map_subtype_val.{u}
abbrev Fj.{u}:=@List.sum_nil.{u}
abbrev Fp:=@Nat.two_pow_add_eq_or_of_lt
abbrev Fq:=@Go.Proofs.Tryz.sizeOf3
abbrev Fs:=@Go.run_call_add
abbrev Fu:=@Go.RowKit.Below.refl
abbrev Fv.{u}:=@List.drop_drop.{u}
abbrev Fw.{u}:=@List.drop_left.{u}
abbrev Fx.{u}:=@List.drop_zero.{u}
abbrev Fy.{u}:=@List.set_cons_zero.{u}
abbrev Fz:=@Nat.add_sub_cancel
abbrev Ga:=@Go.Proofs.Tryz.sizeOf112
abbrev Gb:=@Go.Proofs.Tryz.sizeOf123
abbrev Gc:=@Go.Proofs.Tryz.underlying288
abbrev Gf:=@Go.Proofs.Tryz.underlying289
abbrev Gg:=@Go.Proofs.Tryz.underlying316
abbrev Gh:=@Go.Proofs.Tryz.underlying320
abbrev Gi:=@Go.Proofs.Tryz.underlying337
abbrev Gj:=@Go.Proofs.Tryz.underlying338
abbrev Gl:=@Go.grownCap_le_maxLen
abbrev Gm:=@or_false
abbrev Gn.{u}:=@Array.all_eq_true.{u}
abbrev Gp.{u}:=@Array.getElem_mem.{u}
abbrev Gq.{u}:=@List.countP_congr.{u}
abbrev Gr.{u,v}:=@List.foldl_append.{u,v}
abbrev Gs.{u}:=@List.idxOf_append.{u}
abbrev Gt:=@Nat.add_mod_right
abbrev Gu:=@Nat.le_succ
abbrev Gv:=@Nat.mul_pos
abbrev Gw.{u}:=@Ne.symm.{u}
abbrev Gx:=@Go.Proofs.Tryz.func41
abbrev Gy:=@Go.Proofs.Tryz.func74
abbrev Gz:=@Go.Proofs.Tryz.func84
abbrev Ha:=@Go.Proofs.Tryz.isAgg3
abbrev Hd:=@Go.Proofs.Tryz.underlying97
abbrev He:=@Go.Proofs.Tryz.zeroValue288
abbrev Hf:=@Go.Proofs.Tryz.zeroValue289
abbrev Hg:=@Go.Proofs.Tryz.zeroValue316
abbrev Hl:=@Go.Proofs.Tryz.zeroValue320
abbrev Hm:=@Go.Proofs.Tryz.zeroValue337
abbrev Ho:=@Go.Proofs.Tryz.zeroValue338
abbrev Hq:=@Bool.false_or
abbrev Hr.{u,v}:=@List.map_drop.{u,v}
abbrev Ht.{u}:=@List.take_add.{u}
abbrev Hu:=@Go.Proofs.Tryz.isAgg112
abbrev Hw:=@Go.Proofs.Tryz.isAgg123
abbrev Hy:=@Go.Proofs.Tryz.underlying203
abbrev Hz:=@Go.Proofs.Tryz.underlying221
abbrev Ia:=@Go.IntKind.wrap_u64
abbrev Ib.{u}:=@List.drop_length.{u}
abbrev Ic.{u}:=@List.flatten_nil.{u}
abbrev Ie:=@Go.Proofs.Tryz.zeroValue97
abbrev Ig:=@Int.le_trans
abbrev Ih:=@Int.sub_self
abbrev Ii:=@Int.sub_zero
abbrev Ij:=@Int.zero_mul
abbrev Ik:=@Nat.not_lt
abbrev Il:=@Go.Proofs.Tryz.func114
abbrev Im:=@Go.Proofs.Tryz.func130
abbrev Io:=@Go.Proofs.Tryz.func134
abbrev Ip:=@Go.Proofs.Tryz.func149
abbrev Iq:=@Go.Proofs.Tryz.func158
abbrev Ir:=@Go.Proofs.Tryz.func159
abbrev Iu:=@Go.Proofs.Tryz.func161
abbrev Iw:=@Go.Proofs.Tryz.func166
abbrev Iy:=@Go.Proofs.Tryz.func194
abbrev Iz:=@Go.Proofs.Tryz.sizeOf0
abbrev Ja:=@Go.Proofs.Tryz.sizeOf4
abbrev Jb:=@Go.Proofs.Tryz.sizeOf5
abbrev Jc:=@Go.Proofs.Tryz.sizeOf9
abbrev Jd.{u}:=@if_true.{u}
abbrev Je:=@Go.setRow_other
abbrev Jg:=@BitVec.toNat_or
abbrev Jh.{u}:=@List.drop_left'.{u}
abbrev Jj:=@Int.add_mul
abbrev Jk:=@Int.mul_add
abbrev Jl.{u}:=@List.map_id.{u}
abbrev Jm:=@Nat.add_mod
abbrev Jn:=@Go.Proofs.Tryz.func16
abbrev Jo:=@Go.Proofs.Tryz.func17
abbrev Jp:=@Go.Proofs.Tryz.func42
abbrev Jq:=@Go.Proofs.Tryz.func46
abbrev Jr:=@Go.Proofs.Tryz.func68
abbrev Js:=@Go.Proofs.Tryz.func91
abbrev Jt:=@Go.Proofs.Tryz.isAgg0
abbrev Ju:=@Go.Proofs.Tryz.isAgg4
abbrev Jv:=@Go.Proofs.Tryz.isAgg5
abbrev Jw:=@Go.Proofs.Tryz.isAgg9
abbrev Jy:=@Go.setRow_heap
abbrev AD:=List (List Int)
abbrev AE:=List (Int × Int)
abbrev AF:=Option Addr
abbrev AG:=List Value
abbrev AH:=List Int
abbrev AI:=Array Bool
theorem G{p:Prop}(h:p:=by omega):p:=h
theorem cA{p:Prop}(h:p:=by kernel_rfl):p:=h
theorem cC{p:Prop}(h:p:=by decide):p:=h
theorem cD{p:Prop}(h:p:=by simp):p:=h
theorem cE{p:Prop}(h:p:=by first |assumption|omega|decide):p:=h
theorem cF{p:Prop}(h:p:=by assumption):p:=h
theorem cG{p:Prop}(h:p:=by first |omega|(dsimp only;omega)):p:=h
theorem cH{p:Prop}(h:p:=by simp;omega):p:=h
end Go
namespace Go.Eng
theorem Z.{u} {α:Sort u} {a:α}:a=a:=rfl
end Go.Eng
namespace Go.Eng
open Go Go.RowKit
abbrev Env:=List (Nat × Value)
def lk:Env->Nat->Option Value
 |[],_=>none
 |(k,v)::r,t=>bif Nat.beq k t then some v else lk r t
def ev (L:Env):Operand->Option Value
 | .tmp t=>lk L t
 | .const v=>some v
 | .global g=>some (.pointer (some ⟨g,0,none⟩))
 | .func f=>some (.func (.func f) #[] #[])
structure Nd where
 n:Nat
 ds:List Deferred
 rd:Option Nat:=none
def NF (rd:Option Nat):Fence:= {Fence.wide with round:=rd}
def DC (o:Oper):Bool:=match o.op with| .defer _=>false|_=>true
def DD:Option Nat->List Oper->Bool
 |none,_=>true
 |some _,l=>l.all DC
theorem aTh {P:Program} {rd:Option Nat} {o:Oper} {a:Act} {w:World} {K:Act->World->Prop} {Q:Exit->Act->World->Prop} (hd:rd=none\/DC o=true) (h:o.wp P a w K Q):o.wpIn (NF rd) 0 P a w K Q:=by
  refine⟨λ_ _=>trivial,?_⟩
  have e:o.semAt (NF rd).round a.eval=execOp a.eval o:=by
    rcases hd with rfl|hd
    · exact Oper.semAt_none _ _
    · exact Oper.semAt_eq _ _ _ (λc hc=>by simp[DC,hc] at hd)
  rw[e];unfold Oper.wp at h;generalize (execOp a.eval o).run P w=r at*;cases r with
  | ok x w'=>
    cases x<;>simp only[Oper.upon,Oper.uponIn] at h ⊢
    all_goals first
      |exact h
      |exact h.elim
      | (refine ⟨λh0=>(by cases h0),?_⟩
         exact callsIn_wide (n:=0).2 h)
      | (refine ⟨λh0=>(by cases h0),?_⟩
         intro c cs _;obtain⟨v,Pn,hR,hs⟩:=h c cs
         exact⟨v,Pn,hR,stepsIn_wide.2 hs⟩)
  |halt x w'=>cases x<;>simp only[Oper.upon,Oper.uponIn] at h ⊢ <;>exact h
theorem aEv {P:Program} {rd:Option Nat} {ops:Array Oper} {Q:Exit->Act->World->Prop} (hq: ¬LetsOut Q): ∀(l:List Oper) (a:Act) (w:World),DD rd l=true->wpList P ops Q l a w->wpListIn (NF rd) 0 P ops Q l a w
 |[],_,_,_,h=>h
 | o::l,a,w,hd,h=>by
  have Dd:rd=none\/DC o=true:=by
   cases rd with
   |none=>exact .inl rfl
   |some _=>simp only[DD,Ec,qi] at hd;exact .inr hd.1
  have Ob:DD rd l=true:=by
   cases rd with
   |none=>rfl
   |some _=>simp only[DD,Ec,qi] at hd;exact hd.2
  unfold wpList at h;unfold wpListIn;split
  ·rename_i hw;rw[di hw] at h;rcases h with h|h
   ·exact aTh Dd (Oper.wp_mono (λa w h=>aEv hq l a w Ob h) h)
   ·exact absurd h.2 hq
  ·rename_i hw;rw[df hw] at h;exact⟨λ_ _=>trivial,aEv hq l _ _ Ob h⟩
theorem aCg {P:Program} {rd:Option Nat} {ops:Array Oper} {Q:Exit->Act->World->Prop} (hq: ¬LetsOut Q) (hd:DD rd ops.toList=true): ∀(bm:Nat) (ab:AI) (a:Act) (w:World),wpAny P .any ops Q bm ab a w->wpAnyIn (NF rd) 0 P .any ops Q bm ab a w
 |0,_,_,_,h=>h
 | bm+1,ab,a,w,h=>by
  refine⟨h.1,λi hi=> ?_⟩;have h1:=h.2 i hi;unfold wpOp at h1;unfold wpOpIn;cases ho:ops[i]? with
  |none=>simp only[ho] at h1 ⊢;exact aCg hq hd bm _ _ _ h1
  | some o=>
   simp only[ho] at h1 ⊢
   have Dd:rd=none\/DC o=true:=by
    cases rd with
    |none=>exact .inl rfl
    |some _=>exact .inr (xc.1 hd o (Array.mem_toList_iff.2 (Array.mem_of_getElem? ho)))
   split
   ·rename_i hw;rw[di hw] at h1;rcases h1 with h1|h1
    ·exact aTh Dd (Oper.wp_mono (λa w h=>aCg hq hd bm _ a w h) h1)
    ·exact absurd h1.2 hq
   ·rename_i hw;rw[df hw] at h1;exact⟨λ_ _=>trivial,aCg hq hd bm _ _ _ h1⟩
instance:Coe Nd Nat:=⟨Nd.n⟩
instance:Coe Nat Nd:=⟨λn=>⟨n,[],none⟩⟩
structure Sat (n:Nd) (L:Env) (a:Act):Prop where
 size:a.tmps.size=n.n
 defers:a.defers=n.ds
 val: ∀t v,lk L t=some v->a.tmps[t]? =some v
theorem Sat.getD {n:Nd} {L:Env} {a:Act} (h:Sat n L a) {t:Nat} {v:Value} (hx:lk L t=some v):a.tmps.getD t undef=v:=by
 rw[yx,h.val t v hx];rfl
theorem Sat.ev {n:Nd} {L:Env} {a:Act} (h:Sat n L a) {x:Operand} {v:Value} (hx:ev L x=some v):a.eval x=v:=by
 cases x with
 |tmp t=>exact h.getD hx
 |const u=>exact je hx
 |global g=>exact je hx
 |func f=>exact je hx
theorem yN {L:Env} {k t:Nat} {v u:Value} (h:lk ((k,v)::L) t=some u):(k=t/\v=u)\/(k≠t/\lk L t=some u):=by
 unfold lk at h;cases hb:Nat.beq k t with
 |true=>rw[hb] at h;exact .inl ⟨yf hb,je h⟩
 |false=>rw[hb] at h;exact .inr ⟨Nat.ne_of_beq_eq_false hb,h⟩
theorem Sat.put {n:Nd} {L:Env} {a:Act} (h:Sat n L a) {d:Nat} (hd:Nat.blt d n=true) (v:Value):Sat n ((d,v)::L) (a.put (some d) v):=by
 have hd':d<n:=ak hd;refine⟨by simp[Act.put,h.size],by simp[Act.put,h.defers],λt u hu=> ?_⟩;rcases yN hu with⟨rfl,rfl⟩|⟨cv,hl⟩
 ·simp[Act.put,h.size,hd']
 ·rw [<-h.val t u hl];simp[Act.put,cv]
def Sub (L1 L:Env):Prop:= ∀t v,lk L1 t=some v->lk L t=some v
theorem Sub.nil {L:Env}:Sub [] L:=λt v h=>by simp[lk] at h
theorem Sub.cons {L1 L:Env} {t:Nat} {v:Value} (h:lk L t=some v) (hs:Sub L1 L):Sub ((t,v)::L1) L:=by
 intro s u hu;rcases yN hu with⟨rfl,rfl⟩|⟨_,hl⟩
 ·exact h
 ·exact hs s u hl
theorem Sub.refl (L:Env):Sub L L:=λ_ _ h=>h
theorem Sat.sub {n:Nd} {L L1:Env} {a:Act} (h:Sat n L a) (hs:Sub L1 L):Sat n L1 a:=⟨h.size,h.defers,λt v ht=>h.val t v (hs t v ht)⟩
structure Row where
 e:TypeId
 sz:Nat
 A:AF
 n:Nat
 c:Nat
 xs:AG
 ro:Bool:=false
def Row.lies (B:Nat) (w:World) (r:Row):Prop:=
 match r.ro with
 |false=>w.ownsRow B r.e r.sz (.slice r.A r.n r.c) r.n r.xs
 |true=> ∃g cur fr,r.A=some ⟨g,0,none⟩/\B<=g/\w.heap[g]? =some (.cells cur r.e fr)/\r.n<=maxLen/\r.n<=r.c/\r.xs.length=r.n*r.sz/\cur.toList.take (r.n*r.sz)=r.xs
def Row.apart (r r':Row):Prop:= ∀a a',r.A=some a->r'.A=some a'->a.block≠a'.block
theorem Row.apart_symm {r r':Row} (h:r.apart r'):r'.apart r:=λa a' h1 h2=>Gw (h a' a h2 h1)
def ZN:Obj->Bool
 | .cells .. =>false
 |_=>true
def Late (w0 w:World):Prop:=w0.drawn<=w.drawn/\ ∀(k:Nat) (o:Obj),w0.heap[k]? =some o->ZN o=true->w.heap[k]? =some o
theorem Late.refl (w:World):Late w w:=⟨dx _,λ_ _ h _=>h⟩
theorem Late.trans {w0 w w':World} (h:Late w0 w) (h':Late w w'):Late w0 w':=⟨qy h.1 h'.1,λk o h1 h2=>h'.2 k o (h.2 k o h1 h2) h2⟩
theorem Late.draws {w:World} {k:Nat} (h:w.drawn<=k):Late w {w with drawn:=k}:=⟨h,λ_ _ h _=>h⟩
theorem Late.alloc (w:World) (o:Obj):Late w (w.alloc o):=⟨dx _,λk _ h _=>by
 have bp:k<w.heap.size:=(gp.1 h).1;unfold World.alloc;rw[Array.getElem?_push,df G]
 exact h⟩
structure Hp (B:Nat) (w0 w:World) (R:List Row):Prop where
 below:Below B w0 w
 base:B<=w.heap.size
 own: ∀r∈R,r.lies B w
 apart:R.Pairwise Row.apart
 late:Late w0 w
theorem Hp.refl (w:World):Hp w.heap.size w w []:=⟨Fu _ _,dx _,λ_ h=>(by cases h), .nil,Late.refl _⟩
theorem Hp.tail {B:Nat} {w0 w:World} {r:Row} {R:List Row} (h:Hp B w0 w (r::R)):Hp B w0 w R:=
 ⟨h.below,h.base,λq hq=>h.own q (.tail _ hq),(ja.1 h.apart).2,h.late⟩
theorem Hp.right {B:Nat} {w0 w:World} {R' R:List Row} (h:Hp B w0 w (R'++R)):Hp B w0 w R:=by
 induction R' with
 |nil=>exact h
 |cons r R' ih=>exact ih h.tail
theorem Hp.perm {B:Nat} {w0 w:World} {R R':List Row} (h:Hp B w0 w R) (hp:R.Perm R'):Hp B w0 w R':=
 ⟨h.below,h.base,λq hq=>h.own q (hp.mem_iff.2 hq),hp.pairwise h.apart Row.apart_symm,h.late⟩
theorem Hp.sublist {B:Nat} {w0 w:World} {R R':List Row} (h:Hp B w0 w R) (hs:R'.Sublist R):Hp B w0 w R':=
 ⟨h.below,h.base,λq hq=>h.own q (hs.subset hq),h.apart.sublist hs,h.late⟩
theorem Hp.sel {B:Nat} {w0 w:World} {R:List Row} (h:Hp B w0 w R) (is:List Nat) (hn:is.Nodup) {R':List Row} (hR:is.map (λi=>R[i]?)=R'.map some):Hp B w0 w R':=by
 refine⟨h.below,h.base,λq hq=> ?_,?_,h.late⟩
 ·have h1:some q∈R'.map some:=ii.2 ⟨q,hq,rfl⟩;rw[<-hR] at h1;obtain⟨i,_,hi⟩:=ii.1 h1;exact h.own q (gu hi)
 ·have h1:(R'.map some).Pairwise (λx y=> ∀r r',x=some r->y=some r'->Row.apart r r'):=by
   rw[<-hR];refine ik.2 (hn.imp ?_);intro i j cv r r' hi hj;rcases Co cv with bp|bp
   ·exact ed.1 h.apart i j (fw.1 hi).1 (fw.1 hj).1 bp|>λhh=>by
     rw[(fw.1 hi).2,(fw.1 hj).2] at hh;exact hh
   ·exact Row.apart_symm (ed.1 h.apart j i (fw.1 hj).1 (fw.1 hi).1 bp|>λhh=>by
     rw[(fw.1 hi).2,(fw.1 hj).2] at hh;exact hh)
  exact(ik.1 h1).imp λhh=>hh _ _ rfl rfl
theorem Hp.drawn {B:Nat} {w0 w:World} {R:List Row} (h:Hp B w0 w R) (k:Nat) (hk:w.drawn<=k):Hp B w0 {w with drawn:=k} R:=
 ⟨⟨h.below.os,h.below.tape,h.below.output,h.below.size,h.below.block⟩,h.base,λr hr=>by
  have:=h.own r hr;unfold Row.lies at*
  cases nc:r.ro<;>simp only[nc] at this ⊢ <;>exact this,h.apart,h.late.trans (Late.draws hk)⟩
theorem Row.lies_cells {B:Nat} {w:World} {r:Row} (h:r.lies B w) {a:Addr} (ha:r.A=some a): ∃cs e fr,w.heap[a.block]? =some (.cells cs e fr):=by
 unfold Row.lies at h;cases nc:r.ro with
 | false=>
  simp only[nc] at h;rcases h.2 with⟨hv,_⟩|⟨g,cap,cur,hv,_,hg,_⟩
  ·simp only[ku] at hv;rw[hv.1] at ha;cases ha
  ·simp only[ku] at hv;rw[hv.1] at ha;obtain rfl:=je ha;exact⟨_,_,_,hg⟩
 |true=>
  simp only[nc] at h;obtain⟨g,cur,fr,hA,_,hg,_⟩:=h;rw[hA] at ha;obtain rfl:=je ha;exact⟨_,_,_,hg⟩
theorem Row.lies_of_block {B:Nat} {w w':World} {r:Row} (h:r.lies B w) (hk: ∀a,r.A=some a->w'.heap[a.block]? =w.heap[a.block]?):r.lies B w':=by
 unfold Row.lies at*;cases nc:r.ro with
 | false=>
  simp only[nc] at h ⊢;refine⟨h.1,?_⟩;rcases h.2 with hn|⟨g,cap,cur,hv,hb,hg,rest⟩
  ·exact .inl hn
  ·refine .inr ⟨g,cap,cur,hv,hb,?_,rest⟩;have hA:r.A=some ⟨g,0,none⟩:=by injection hv
   rw[hk _ hA];exact hg
 |true=>
  simp only[nc] at h ⊢;obtain⟨g,cur,fr,hA,hb,hg,rest⟩:=h;exact⟨g,cur,fr,hA,hb,by rw[hk _ hA];exact hg,rest⟩
theorem Row.lies_lt {B:Nat} {w:World} {r:Row} (h:r.lies B w): ∀a,r.A=some a->B<=a.block/\a.block<w.heap.size:=by
 intro a ha;unfold Row.lies at h;cases nc:r.ro with
 |false=>
  simp only[nc] at h;exact h.lt a.block (by simp[Value.ownBlock,ha])
 |true=>
  simp only[nc] at h;obtain⟨g,cur,fr,hA,hb,hg,_⟩:=h;rw[hA] at ha;obtain rfl:=je ha;exact⟨hb,(gp.1 hg).1⟩
theorem Hp.join {B:Nat} {w0 w w':World} {R Rn:List Row} (h:Hp B w0 w R) (h':Hp w.heap.size w w' Rn):Hp B w0 w' (Rn++R):=by
 refine⟨h.below.trans (h'.below.mono h.base),qy h.base h'.base,λr hr=> ?_,?_,h.late.trans h'.late⟩
 ·rcases dz.1 hr with hr|hr
  ·have h1:=h'.own r hr;unfold Row.lies at*;cases nc:r.ro with
   |false=>
    simp only[nc] at h1 ⊢;refine⟨h1.1,?_⟩;rcases h1.2 with hn|⟨g,cap,cur,hv,hb,rest⟩
    ·exact .inl hn
    ·exact .inr ⟨g,cap,cur,hv,qy h.base hb,rest⟩
   |true=>
    simp only[nc] at h1 ⊢;obtain⟨g,cur,fr,hA,hb,rest⟩:=h1;exact⟨g,cur,fr,hA,qy h.base hb,rest⟩
  ·have h1:=h.own r hr;exact Row.lies_of_block h1 λa ha=>h'.below.block a.block (Row.lies_lt h1 a ha).2
 ·refine kg.2 ⟨h'.apart,h.apart,λr hr q hq a a' ha np=> ?_⟩;have h1:=(Row.lies_lt (h'.own r hr) a ha).1;have h2:=(Row.lies_lt (h.own q hq) a' np).2;omega
theorem OY {α:Type}: ∀(a:Ask α) (w:World),w.drawn<=(w.ask a).2.drawn
 | .done _,_=>dx _
 | .ask what range k,w=>by
  unfold World.ask;simp only;split
  ·exact OY _ _
  ·exact qy (Gu _) (OY _ {w with drawn:=w.drawn+1})
theorem aQw (w:World) (c:Sys):w.drawn<=(w.sys c).2.drawn:=by
 have h:=OY (Kernel.perform c w.os) w;unfold World.sys;split
 ·exact dx _
 ·rename_i he;rw[he] at h;exact h
theorem bBt {ε α β:Type} {x:Except ε α} {f:α->Except ε β} {r:β} (h:Except.bind x f= .ok r): ∃a,f a= .ok r:=by
 cases x with
 |error e=>cases h
 |ok a=>exact⟨a,h⟩
theorem aKm {P:Program} {w:World} {b a:Addr} {u:TypeId} {v:Value} {c:Bool} {r:World × List Addr} (h:w.viewStore P b u a v c= .ok r):r.1.drawn=w.drawn:=by
 unfold World.viewStore at h;simp only[bind,pure,Except.pure] at h
 repeat' first
  |(cases h;done)
  |(split at h)
  |(replace h:=bBt h;cases h;rename_i h)
 all_goals (simp only[Except.ok.injEq] at h;rw[<-h])
theorem aVk {P:Program} {w:World} {a:Addr} {v:Value} {b:Bool} {r:World × List Addr} (h:w.farStore P a v b= .ok r):r.1.drawn=w.drawn:=by
 unfold World.farStore at h;split at h
 ·split at h
  ·rename_i hv;simp only[Except.ok.injEq] at h;rw[<-h];exact aKm hv
  ·cases h
 ·cases h
theorem LP {α:Type} {P:Program}: ∀(m:Sem α) (w w':World) (a:α),m.run P w= .ok a w'->w.drawn<=w'.drawn:=by
  intro m
  induction m with
  |pure a=>intro w w' b h;simp only[Sem.run,Cj] at h;rw[h.2];exact dx _
  | load m a k ih=>
    intro w w' b h;simp only[Sem.run] at h;split at h
    · exact ih _ _ _ _ h
    · split at h
      · exact ih _ _ _ _ h
      · cases h
  | store m a v k ih=>
    intro w w' b h;cases v<;>simp only[Sem.run] at h
    all_goals first
      |(cases h;done)
      | (split at h
         · split at h
           · cases h
           · have h1:=ih _ _ _ h
             exact h1
         · split at h
           · rename_i hf
             have h1:=ih _ _ _ h;have h2:=aVk hf;simp only at h2;rw[h2] at h1;exact h1
           · cases h)
  |new o k ih=>intro w w' b h;have h1:=ih w.heap.size {w with heap:=w.heap.push o} w' b h;exact h1
  |shape r k ih=>intro w w' b h;exact ih _ _ _ _ h
  | freeze a n k ih=>
    intro w w' b h;have:=ih _ _ _ h;have e:(w.freeze a n).drawn=w.drawn:=by unfold World.freeze;split<;>rfl
    rwa[e] at this
  |frozen a k ih=>intro w w' b h;exact ih _ _ _ _ h
  | getObj r k ih=>
    intro w w' b h;simp only[Sem.run] at h;split at h
    · cases h
    · exact ih _ _ _ _ h
    · cases h
  | setObj r o k ih=>
    intro w w' b h;simp only[Sem.run] at h;split at h
    · cases h
    · have h1:=ih _ _ _ h
      exact h1
    · cases h
  | choose q k ih=>
    intro w w' b h;simp only[Sem.run] at h;split at h
    · exact ih _ _ _ _ h
    · exact qy (Gu _) (ih _ _ _ _ h)
  | sys c k ih=>
    intro w w' b h;exact qy (aQw w c) (ih _ _ _ _ h)
  |program k ih=>intro w w' b h;exact ih _ _ _ _ h
  |mark m k ih=>intro w w' b h;exact ih _ _ _ h
  |halt x=>intro w w' b h;cases h
structure Rd (w:World) (A:AF) (n c sz:Nat) (xs:AG):Prop where
 len:xs.length=n*sz
 max:n<=9223372036854775807
 le:n<=c
 at_: ∀j v,xs[j]? =some v-> ∃a,A=some a/\w.cell? (a.add j)=some v
def RdC (B:Nat) (w0:World) (R:List Row) (A:AF) (n c sz:Nat) (xs:AG):Prop:= ∀w,Hp B w0 w R->Rd w A n c sz xs
theorem Rd.below {w w':World} {A:AF} {n c sz:Nat} {xs:AG} (h:Rd w A n c sz xs) (hb:Below w.heap.size w w'):Rd w' A n c sz xs:=
 ⟨h.len,h.max,h.le,λj v hv=>by
  obtain⟨a,ha,hc⟩:=h.at_ j v hv
  exact⟨a,ha,(hb.cell (World.block_lt_of_cell? w _ hc)).trans hc⟩⟩
theorem Rd.c {w:World} {A:AF} {n c sz:Nat} {xs:AG} (h:Rd w A n c sz xs) (R:List Row):RdC w.heap.size w R A n c sz xs:=λ_ hw=>h.below hw.below
theorem Row.rd {B:Nat} {w:World} {r:Row} (h:r.lies B w):Rd w r.A r.n r.c r.sz r.xs:=by
 unfold Row.lies at h;cases nc:r.ro with
 | false=>
  simp only[nc] at h;refine⟨h.1,?_,?_,λj v hv=> ?_⟩
  ·rcases h.2 with⟨_,hn⟩|⟨g,cap,cur,_,_,_,h1,h2,_⟩
   ·omega
   ·unfold maxLen at h2;omega
  ·rcases h.2 with⟨_,hn⟩|⟨g,cap,cur,hv,_,_,h1,h2,_⟩
   ·omega
   ·simp only[ku] at hv;omega
  ·rcases h.2 with⟨Qr,hn⟩|⟨g,cap,cur,Qr,_⟩
   ·have:r.xs.length=0:=by rw[h.1,hn];omega
    rw[lu G] at hv;cases hv
   ·have hA:r.A=some ⟨g,0,none⟩:=by injection Qr
    exact⟨_,hA,h.cells (g:=g) (by simp[Value.ownBlock,hA]) j v hv⟩
 |true=>
  simp only[nc] at h;obtain⟨g,cur,fr,hA,_,hg,hm,hc,hl,ht⟩:=h;unfold maxLen at hm;refine⟨hl,hm,hc,λj v hv=>⟨_,hA,?_⟩⟩;have Ku:(⟨g,0,none⟩:Addr).add j=⟨g,j,none⟩:=by unfold Addr.add;split<;>simp_all
  rw[Ku,cell_of_row w g j cur r.e fr hg];rw[<-ht,ou] at hv;split at hv
  ·simpa using hv
  ·cases hv
theorem rdR {B:Nat} {w0:World} {R:List Row} (i:Nat) {r:Row} (hi:R[i]? =some r):RdC B w0 R r.A r.n r.c r.sz r.xs:=λ_ hw=>Row.rd (hw.own r (gu hi))
theorem rdr {B:Nat} {w0:World} {R:List Row} (i:Nat) {e sz:Nat} {A:AF} {n c:Nat} {xs:AG} {ro:Bool} (hi:R[i]? =some ⟨e,sz,A,n,c,xs,ro⟩):RdC B w0 R A n c sz xs:=rdR i hi
theorem RdC.right {B:Nat} {w0:World} {R:List Row} {A:AF} {n c sz:Nat} {xs:AG} (h:RdC B w0 R A n c sz xs) (R':List Row):RdC B w0 (R'++R) A n c sz xs:=λw hw=>h w hw.right
theorem RdC.tail {B:Nat} {w0:World} {R:List Row} {A:AF} {n c sz:Nat} {xs:AG} (h:RdC B w0 R A n c sz xs) {r:Row}:RdC B w0 (r::R) A n c sz xs:=λw hw=>h w hw.tail
structure fK where
 nrm:Env->List Row->Prop
 ret:Env->List Row->Prop
 ext:Nat->Env->List Row->Prop
section
variable {P:Program} {n:Nd} {B:Nat} {w0:World}
def PQ (n:Nd) (B:Nat) (w0:World) (Q:fK):Exit->Act->World->Prop
 | .normal,a,w=> ∃L R,Sat n L a/\Hp B w0 w R/\Q.nrm L R
 | .ret,a,w=> ∃L R,Sat n L a/\Hp B w0 w R/\Q.ret L R
 | .exit i,a,w=> ∃L R,Sat n L a/\Hp B w0 w R/\Q.ext i L R
 |_,_,_=>False
def W (P:Program) (n:Nd) (B:Nat) (w0:World) (c:Code) (Q:fK) (L:Env) (R:List Row):Prop:=
 ∀a w,Sat n L a->Hp B w0 w R->c.wpIn (NF n.rd) 0 P (PQ n B w0 Q) a w
theorem aD {x y:Code} {Q:fK} {L:Env} {R:List Row} (h:W P n B w0 x {Q with nrm:=λL R=>W P n B w0 y Q L R} L R):W P n B w0 (.seq x y) Q L R:=by
 intro a w hs hp;refine wpIn_seq (Bb (h a w hs hp) ?_);intro e a' w' hq;cases e with
 |normal=>obtain⟨L',R',fj,da,hw⟩:=hq;exact hw a' w' fj da
 |exit id=>exact hq
 |goto l=>exact hq
 |ret=>exact hq
 |panic ch=>exact hq
 |outgrown=>exact hq
theorem aH {id:Nat} {c:Code} {Q:fK} {L:Env} {R:List Row} (h:W P n B w0 c {Q with ext:=λi L R=>bif Nat.beq i id then Q.nrm L R else Q.ext i L R} L R):W P n B w0 (.block id c) Q L R:=by
 intro a w hs hp;refine wpIn_block (Bb (h a w hs hp) ?_);intro e a' w' hq;cases e with
 |normal=>exact hq
 | exit i=>
  obtain⟨L',R',fj,da,hw⟩:=hq;simp only[Exit.inBlock];by_cases hi:i=id
  ·subst hi;rw[di rfl];exact⟨L',R',fj,da,by simpa using hw⟩
  ·rw [df hi]
   have hb:Nat.beq i id=false:=by
    cases hb:Nat.beq i id with
    |true=>exact absurd (yf hb) hi
    |false=>rfl
   dsimp only at hw;rw[hb] at hw;exact⟨L',R',fj,da,hw⟩
 |goto l=>exact hq
 |ret=>exact hq
 |panic ch=>exact hq
 |outgrown=>exact hq
theorem aR {id:Nat} {Q:fK} {L:Env} {R:List Row} (h:Q.ext id L R):W P n B w0 (.exit id) Q L R:=
 λ_ _ hs hp=>wpIn_exit ⟨L,R,hs,hp,h⟩
theorem bQ {Q:fK} {L:Env} {R:List Row} (h:Q.ret L R):W P n B w0 .ret Q L R:=λ_ _ hs hp=>wpIn_ret ⟨L,R,hs,hp,h⟩
theorem aI {Q:fK} {L:Env} {R:List Row} (h:Q.nrm L R):W P n B w0 .skip Q L R:=λ_ _ hs hp=>wpIn_skip ⟨L,R,hs,hp,h⟩
theorem KM {c:Operand} {x y:Code} {Q:fK} {L:Env} {R:List Row} {b:Bool} (hc:ev L c=some (.bool b)) (hx:b=true->W P n B w0 x Q L R) (hy:b=false->W P n B w0 y Q L R):W P n B w0 (.cond c x y) Q L R:=
 λa w hs hp=>wpIn_cond_split (hs.ev hc) (λhb=>hx hb a w hs hp) (λhb=>hy hb a w hs hp)
theorem bA {c:Operand} {x y:Code} {Q:fK} {L:Env} {R:List Row} {p:Prop} [Decidable p] (hc:ev L c=some (.bool (decide p))) (hx:p->W P n B w0 x Q L R) (hy: ¬p->W P n B w0 y Q L R):W P n B w0 (.cond c x y) Q L R:=
 KM hc (λh=>hx (yu h)) (λh=>hy (of_decide_eq_false h))
theorem dS {c:Operand} {x y:Code} {Q:fK} {L:Env} {R:List Row} (hc:ev L c=some (.bool true)) (hx:W P n B w0 x Q L R):W P n B w0 (.cond c x y) Q L R:=KM hc (λ_=>hx) (λh=>by cases h)
theorem aP {c:Operand} {x y:Code} {Q:fK} {L:Env} {R:List Row} (hc:ev L c=some (.bool false)) (hy:W P n B w0 y Q L R):W P n B w0 (.cond c x y) Q L R:=KM hc (λh=>by cases h) (λ_=>hy)
theorem aHi {c:Code} {Q:fK} {L L1:Env} {R R1:List Row} (hL:Sub L1 L) (hR: ∀w,Hp B w0 w R->Hp B w0 w R1) (h:W P n B w0 c Q L1 R1):W P n B w0 c Q L R:=
 λa w hs hp=>h a w (hs.sub hL) (hR w hp)
theorem iV {c:Code} {Q Q':fK} {L:Env} {R:List Row} (h:W P n B w0 c Q L R) (h1: ∀L R,Q.nrm L R->Q'.nrm L R) (h2: ∀L R,Q.ret L R->Q'.ret L R) (h3: ∀i L R,Q.ext i L R->Q'.ext i L R):W P n B w0 c Q' L R:=by
 intro a w hs hp;refine Bb (h a w hs hp) ?_;intro e a' w' hq;cases e with
 |normal=>obtain⟨L',R',fj,da,hw⟩:=hq;exact⟨L',R',fj,da,h1 _ _ hw⟩
 |exit id=>obtain⟨L',R',fj,da,hw⟩:=hq;exact⟨L',R',fj,da,h3 _ _ _ hw⟩
 |goto l=>exact hq
 |ret=>obtain⟨L',R',fj,da,hw⟩:=hq;exact⟨L',R',fj,da,h2 _ _ hw⟩
 |panic ch=>exact hq
 |outgrown=>exact hq
def Fam {σ:Type} (B:Nat) (w0:World) (Lx:σ->Env) (Rx:σ->List Row) (J:σ->Prop) (L:Env) (R:List Row):Prop:=
 ∃x,J x/\Sub (Lx x) L/\ ∀w,Hp B w0 w R->Hp B w0 w (Rx x)
theorem qQ {σ:Type} {c:Code} {Q:fK} {L:Env} {R:List Row} (Lx:σ->Env) (Rx:σ->List Row) (J:σ->Prop) (μ:σ->Nat)
  (h0:Fam B w0 Lx Rx J L R)
  (round: ∀x,J x->W P n B w0 c {Q with nrm:=Fam B w0 Lx Rx (λy=>J y/\μ y<μ x)} (Lx x) (Rx x)):W P n B w0 (.loop c) Q L R:=by
 intro a w hs hp;obtain⟨x0,z8,hL0,No⟩:=h0;refine wpIn_loop_ghost (λk a w=> ∃x,μ x=k/\J x/\Sat n (Lx x) a/\Hp B w0 w (Rx x)) (μ x0) ⟨x0,rfl,z8,hs.sub hL0,No w hp⟩ ?_;rintro k a w ⟨x,rfl,hJ,hs,hp⟩;refine Bb (round x hJ a w hs hp) ?_;intro e a' w' hq;cases e with
 |normal=>
  obtain⟨L',R',fj,da,y,⟨hJy,bp⟩,hLy,hRy⟩:=hq;exact⟨μ y,bp,y,rfl,hJy,fj.sub hLy,hRy _ da⟩
 |exit id=>exact hq
 |goto l=>exact hq
 |ret=>exact hq
 |panic ch=>exact hq
 |outgrown=>exact hq
def Ct (P:Program) (f:FuncId) (args:Array Value) (B:Nat) (w0:World) (R:List Row) (Post:Value->List Row->Prop):Prop:=
 ∀w,Hp B w0 w R->Calls P f args w λe w'=> ∃v R',e= .returned v/\Hp B w0 w' R'/\Post v R'
theorem Ct.mono {f:FuncId} {args:Array Value} {R:List Row} {Post Lv:Value->List Row->Prop} (h:Ct P f args B w0 R Post) (hp: ∀v R',Post v R'->Lv v R'):Ct P f args B w0 R Lv:=
 λw hw=>(h w hw).mono λ_ _ ⟨v,R',he,hh,hv⟩=>⟨v,R',he,hh,hp _ _ hv⟩
theorem Ct.fresh {f:FuncId} {args:Array Value} {R:List Row} {Post:Value->List Row->Prop} (h: ∀w,Hp B w0 w R->Ct P f args w.heap.size w [] Post):
  Ct P f args B w0 R (λv R'=> ∃Rn,R'=Rn++R/\Post v Rn):=
 λw hw=>(h w hw w (Hp.refl w)).mono λ_ _ ⟨v,Rn,he,hh,hv⟩=>⟨v,Rn++R,he,hw.join hh,Rn,rfl,hv⟩
theorem Ct.sub {f:FuncId} {args:Array Value} {R R1:List Row} {Post:Value->List Row->Prop} (hR: ∀w,Hp B w0 w R->Hp B w0 w R1) (h:Ct P f args B w0 R1 Post):Ct P f args B w0 R Post:=
 λw hw=>h w (hR w hw)
def ini:Nat->AG->Env
 |_,[]=>[]
 |k,v::vs=>(k,v)::ini (k+1) vs
theorem aEu: ∀(vs:AG) (k t:Nat) (v:Value),lk (ini k vs) t=some v->k<=t/\vs[t-k]? =some v:=by
 intro vs
 induction vs with
 |nil=>intro k t v h;simp[ini,lk] at h
 | cons u us ih=>
  intro k t v h;rcases yN h with⟨rfl,rfl⟩|⟨_,hl⟩
  ·simp
  ·obtain ⟨h1,h2⟩:=ih (k+1) t v hl;refine⟨G,?_⟩;have:t-k=(t-(k+1))+1:=G
   rw[this];simpa using h2
theorem aIy {f:FuncId} {fn:Func} {c:Code} {args:AG} {R:List Row} {Post:Value->List Row->Prop} (hf:P.funcs[f]? =some fn) (hb:fn.body=some c) (hl:Nat.ble args.length fn.ntmps=true)
  {Rt:Env->Option Value} (Lo: ∀L a w v,Sat fn.ntmps L a->Rt L=some v->(results fn a.tmps).run P w= .ok v w)
  (h:W P fn.ntmps B w0 c ⟨λL R'=> ∃v,Rt L=some v/\Post v R',λL R'=> ∃v,Rt L=some v/\Post v R',λ_ _ _=>False⟩ (ini 0 args) R):Ct P f args.toArray B w0 R Post:=by
 intro w hw;have Qb:args.length<=fn.ntmps:=ak hl;refine calls_of_wp hf hb (wp_mono (wpIn_wide.1 (h _ w ⟨cH,rfl,λt v ht=> ?_⟩ hw)) ?_)
 ·obtain ⟨_,h2⟩:=aEu args 0 t v ht;simp only[yz] at h2;have bp:=(fw.1 h2).1;rw[<-h2];simp[Bc,bp]
 ·intro e a' w' hq;cases e with
  |normal=>obtain⟨L',R',fj,da,v,hv,pr⟩:=hq;exact⟨fj.defers,v,Lo _ _ _ _ fj hv,v,R',rfl,da,pr⟩
  |ret=>obtain⟨L',R',fj,da,v,hv,pr⟩:=hq;exact⟨fj.defers,v,Lo _ _ _ _ fj hv,v,R',rfl,da,pr⟩
  |exit id=>obtain⟨_,_,_,_,h⟩:=hq;exact h.elim
  |goto l=>exact hq
  |panic ch=>exact hq.elim
  |outgrown=>exact hq.elim
theorem fn0 {f:FuncId} {fn:Func} {c:Code} {args:AG} {R:List Row} {Post:Value->List Row->Prop} (hf:P.funcs[f]? =some fn) (hb:fn.body=some c) (hr:fn.results= #[]) (hl:Nat.ble args.length fn.ntmps=true)
  (h:W P fn.ntmps B w0 c ⟨λ_ R'=>Post (.tuple #[]) R',λ_ R'=>Post (.tuple #[]) R',λ_ _ _=>False⟩ (ini 0 args) R):Ct P f args.toArray B w0 R Post:=
 aIy hf hb hl (Rt:=λ_=>some (.tuple #[])) (λ_ _ _ v _ hv=>by obtain rfl:=je hv;exact results_none hr _ _ _) (by simpa using h)
theorem fn1 {f:FuncId} {fn:Func} {c:Code} {args:AG} {R:List Row} {Post:Value->List Row->Prop} {r:Nat} (hf:P.funcs[f]? =some fn) (hb:fn.body=some c) (hr:fn.results= #[.tmp r]) (hl:Nat.ble args.length fn.ntmps=true)
  (h:W P fn.ntmps B w0 c ⟨λL R'=> ∃v,lk L r=some v/\Post v R',λL R'=> ∃v,lk L r=some v/\Post v R',λ_ _ _=>False⟩ (ini 0 args) R):Ct P f args.toArray B w0 R Post:=
 aIy hf hb hl (Rt:=λL=>lk L r) (λ_ _ _ v hs hv=>by rw[results_tmp hr,hs.getD hv]) h
theorem fn2 {f:FuncId} {fn:Func} {c:Code} {args:AG} {R:List Row} {Post:Value->List Row->Prop} {r s:Nat} (hf:P.funcs[f]? =some fn) (hb:fn.body=some c) (hr:fn.results= #[.tmp r, .tmp s]) (hl:Nat.ble args.length fn.ntmps=true)
  (h:W P fn.ntmps B w0 c ⟨λL R'=> ∃v u,lk L r=some v/\lk L s=some u/\Post (.tuple #[v,u]) R',λL R'=> ∃v u,lk L r=some v/\lk L s=some u/\Post (.tuple #[v,u]) R',λ_ _ _=>False⟩ (ini 0 args) R):Ct P f args.toArray B w0 R Post:=by
 refine aIy hf hb hl (Rt:=λL=>(lk L r).bind λv=>(lk L s).map λu=> .tuple #[v,u]) (λL a w v hs hv=> ?_) (iV h ?_ ?_ (λ_ _ _ h=>h))
 ·obtain ⟨x,hx,hv⟩:=Cw.1 hv;obtain⟨u,hu,rfl⟩:=iw.1 hv;rw[results_tmp2 hr,hs.getD hx,hs.getD hu]
 ·rintro L R' ⟨v,u,hv,hu,hp⟩;exact⟨_,by simp[hv,hu],hp⟩
 ·rintro L R' ⟨v,u,hv,hu,hp⟩;exact⟨_,by simp[hv,hu],hp⟩
theorem fn3 {f:FuncId} {fn:Func} {c:Code} {args:AG} {R:List Row} {Post:Value->List Row->Prop} {r s t:Nat} (hf:P.funcs[f]? =some fn) (hb:fn.body=some c) (hr:fn.results= #[.tmp r, .tmp s, .tmp t]) (hl:Nat.ble args.length fn.ntmps=true)
  (h:W P fn.ntmps B w0 c ⟨λL R'=> ∃v u x,lk L r=some v/\lk L s=some u/\lk L t=some x/\Post (.tuple #[v,u,x]) R',λL R'=> ∃v u x,lk L r=some v/\lk L s=some u/\lk L t=some x/\Post (.tuple #[v,u,x]) R',λ_ _ _=>False⟩ (ini 0 args) R):Ct P f args.toArray B w0 R Post:=by
 refine aIy hf hb hl (Rt:=λL=>(lk L r).bind λv=>(lk L s).bind λu=>(lk L t).map λx=> .tuple #[v,u,x]) (λL a w v hs hv=> ?_) (iV h ?_ ?_ (λ_ _ _ h=>h))
 ·obtain ⟨x,hx,hv⟩:=Cw.1 hv;obtain⟨u,hu,hv⟩:=Cw.1 hv;obtain⟨y,hy,rfl⟩:=iw.1 hv;simp[results,hr,hs.val r x hx,hs.val s u hu,hs.val t y hy]
 ·rintro L R' ⟨v,u,x,hv,hu,hx,hp⟩;exact⟨_,by simp[hv,hu,hx],hp⟩
 ·rintro L R' ⟨v,u,x,hv,hu,hx,hp⟩;exact⟨_,by simp[hv,hu,hx],hp⟩
def WR (P:Program) (n:Nd) (B:Nat) (w0:World) (ops:Array Oper) (l:List Oper) (K:Env->List Row->Prop) (L:Env) (R:List Row):Prop:=
 ∀a w (Q:Exit->Act->World->Prop),Sat n L a->Hp B w0 w R->(∀a' w' L' R',Sat n L' a'->Hp B w0 w' R'->K L' R'->Q .normal a' w')->wpList P ops Q l a w
theorem aHc {Q:fK}: ¬LetsOut (PQ n B w0 Q):=λ⟨_,_,h⟩=>h
theorem aK {id:Nat} {l:List Oper} {Q:fK} {L:Env} {R:List Row} (h:WR P n B w0 l.toArray l Q.nrm L R) (hd:DD n.rd l=true:=by exact rfl):W P n B w0 (.region id l.toArray false) Q L R:=
 λa w hs hp=>wpIn_region_lit (aEv aHc l a w hd (h a w _ hs hp λ_ _ L' R' fj da hk=>⟨L',R',fj,da,hk⟩))
variable {ops:Array Oper} {l:List Oper} {K:Env->List Row->Prop} {L:Env} {R:List Row} {op:Op} {ty:TypeId} {pos:String} {ob:Array Edge}
theorem aA (h:K L R):WR P n B w0 ops [] K L R:=λ_ _ _ hs hp hq=>wpList_nil (hq _ _ L R hs hp h)
def Yl (P:Program) (n:Nd) (B:Nat) (w0:World) (op:Op) (ty:TypeId) (L:Env) (R:List Row) (v:Value):Prop:=
 ∀(a:Act) (w:World) (o:Oper),o.op=op->o.type=ty->Sat n L a->Hp B w0 w R->(execOp a.eval o).run P w= .ok (.value v) w
def Ac (P:Program) (n:Nd) (B:Nat) (w0:World) (op:Op) (ty:TypeId) (L:Env) (R:List Row) (Post:Value->List Row->Prop):Prop:=
 ∀(a:Act) (w:World) (o:Oper) (K:Act->World->Prop) (Q:Exit->Act->World->Prop),o.op=op->o.type=ty->Sat n L a->Hp B w0 w R->(∀v w' R',Hp B w0 w' R'->Post v R'->K (a.put o.dst v) w')->o.wp P a w K Q
theorem UG {d:Nat} {v:Value} (hn:Nat.blt d n=true) (hy:Yl P n B w0 op ty L R v) (h:WR P n B w0 ops l K ((d,v)::L) R):WR P n B w0 ops ({dst:=some d,op:=op,type:=ty,pos:=pos,after:=ob,guard:=none}::l) K L R:=by
 intro a w Q hs hp hq;refine wpList_plain rfl λK' Sa=> ?_;unfold Oper.wp;rw[hy a w _ rfl rfl hs hp];exact Sa _ _ (h _ _ Q (hs.put hn v) hp hq)
theorem bNm {d:Nat} {Post:Value->List Row->Prop} (hn:Nat.blt d n=true) (ha:Ac P n B w0 op ty L R Post) (h: ∀v R',Post v R'->WR P n B w0 ops l K ((d,v)::L) R'):WR P n B w0 ops ({dst:=some d,op:=op,type:=ty,pos:=pos,after:=ob,guard:=none}::l) K L R:=by
 intro a w Q hs hp hq;refine wpList_plain rfl λK' Sa=> ?_;exact ha a w _ K' Q rfl rfl hs hp λv w' R' da hv=>Sa _ _ (h v R' hv _ _ Q (hs.put hn v) da hq)
theorem dC {Post:Value->List Row->Prop} (ha:Ac P n B w0 op ty L R Post) (h: ∀v R',Post v R'->WR P n B w0 ops l K L R'):WR P n B w0 ops ({dst:=none,op:=op,type:=ty,pos:=pos,after:=ob,guard:=none}::l) K L R:=by
 intro a w Q hs hp hq;refine wpList_plain rfl λK' Sa=> ?_;exact ha a w _ K' Q rfl rfl hs hp λv w' R' da hv=>Sa _ _ (h v R' hv _ _ Q hs da hq)
theorem qO {j d:Nat} {b:Bool} {a:Act} (hs:Sat n L a) (hj:(ops[j]?).bind (·.dst)=some d) (hb:lk L d=some (.bool b)):yielded ops a.tmps j=some b:=by
 unfold yielded;rw[hj];simp only[Option.bind_some];rw[hs.val d _ hb]
theorem aB {j d:Nat} {want:Bool} {dst:Option Nat} (hj:(ops[j]?).bind (·.dst)=some d) (hb:lk L d=some (.bool want)) (h:WR P n B w0 ops ({dst:=dst,op:=op,type:=ty,pos:=pos,after:=ob,guard:=none}::l) K L R):
  WR P n B w0 ops ({dst:=dst,op:=op,type:=ty,pos:=pos,after:=ob,guard:=some (j,want)}::l) K L R:=by
 intro a w Q hs hp hq;have h1:=h a w Q hs hp hq;have hy:=qO hs hj hb;unfold wpList at h1 ⊢;rw[di (by simp[Region.wanted])] at h1;rw[di (by simp[Region.wanted,hy])];exact h1
theorem aM {j d e:Nat} {want b:Bool} (hj:(ops[j]?).bind (·.dst)=some d) (hb:lk L d=some (.bool b)) (cv:(b==want)=false) (hn:Nat.blt e n=true) (h:WR P n B w0 ops l K ((e,undef)::L) R):
  WR P n B w0 ops ({dst:=some e,op:=op,type:=ty,pos:=pos,after:=ob,guard:=some (j,want)}::l) K L R:=by
 intro a w Q hs hp hq;have hy:=qO hs hj hb;unfold wpList
 have:Region.wanted {dst:=some e,op:=op,type:=ty,pos:=pos,after:=ob,guard:=some (j,want)} (yielded ops a.tmps)=false:=by
  simp only[Region.wanted,hy];cases b<;>cases want<;>simp_all
 rw[this];simp only[wu,xx];exact h _ _ Q (hs.put hn undef) hp hq
theorem zA {j d:Nat} {a:Act} (hs:Sat n L a) (hj:(ops[j]?).bind (·.dst)=some d) (hb:lk L d=some undef):yielded ops a.tmps j=none:=by
 unfold yielded;rw[hj];simp only[Option.bind_some];rw[hs.val d _ hb];rfl
theorem dQ {j d e:Nat} {want:Bool} (hj:(ops[j]?).bind (·.dst)=some d) (hb:lk L d=some undef) (hn:Nat.blt e n=true) (h:WR P n B w0 ops l K ((e,undef)::L) R):
  WR P n B w0 ops ({dst:=some e,op:=op,type:=ty,pos:=pos,after:=ob,guard:=some (j,want)}::l) K L R:=by
 intro a w Q hs hp hq;have hy:=zA hs hj hb;unfold wpList
 have:Region.wanted {dst:=some e,op:=op,type:=ty,pos:=pos,after:=ob,guard:=some (j,want)} (yielded ops a.tmps)=false:=by
  simp[Region.wanted,hy]
 rw[this];simp only[wu,xx];exact h _ _ Q (hs.put hn undef) hp hq
theorem qJ {d:Nat} {v:Value} (h:lk L d=some v):Sub ((d,v)::L) L:=by
 intro t u hu;rcases yN hu with⟨rfl,rfl⟩|⟨_,hl⟩
 ·exact h
 ·exact hl
theorem bN (d:Nat) {p:Prop} [Decidable p] (hb:lk L d=some (.bool (decide p))) (ht:p->WR P n B w0 ops l K ((d, .bool true)::L) R) (hf: ¬p->WR P n B w0 ops l K ((d, .bool false)::L) R):WR P n B w0 ops l K L R:=by
 intro a w Q hs hp hq;by_cases h:p
 ·exact ht h a w Q (hs.sub (qJ (by rw[hb,ni h]))) hp hq
 ·exact hf h a w Q (hs.sub (qJ (by rw[hb,qa h]))) hp hq
theorem bT {L1:Env} {R1:List Row} (hL:Sub L1 L) (hR: ∀w,Hp B w0 w R->Hp B w0 w R1) (h:WR P n B w0 ops l K L1 R1):WR P n B w0 ops l K L R:=
 λa w Q hs hp hq=>h a w Q (hs.sub hL) (hR w hp) hq
theorem bC {d:Nat} {u v:Value} (hu:u=v) (h:WR P n B w0 ops l K ((d,v)::L) R):WR P n B w0 ops l K ((d,u)::L) R:=by
 subst hu;exact h
theorem gM {R1:List Row} (hR:R=R1) (h:WR P n B w0 ops l K L R1):WR P n B w0 ops l K L R:=by
 subst hR;exact h
end
end Go.Eng
namespace Go.Eng
open Go Go.RowKit
section
variable {P:Program} {n:Nd} {B:Nat} {w0:World} {L:Env} {R:List Row} {ty:TypeId}
theorem aJ {x:Operand} {v:Value} (h:ev L x=some v):Yl P n B w0 (.move x) ty L R v:=by
 intro a w o ho _ hs _;simp[execOp,ho,hs.ev h]
theorem bB {x:Operand} {v:Value} (h:ev L x=some v):Yl P n B w0 (.assign x) ty L R v:=by
 intro a w o ho _ hs _;simp[execOp,ho,hs.ev h]
theorem aPp {c x y:Operand} {b:Bool} {v u:Value} (hc:ev L c=some (.bool b)) (hx:b=true->ev L x=some v) (hy:b=false->ev L y=some u):Yl P n B w0 (.pick c x y) ty L R (bif b then v else u):=by
 intro a w o ho _ hs _;cases b with
 |true=>simp[execOp,ho,hs.ev hc,hs.ev (hx rfl),asBool]
 |false=>simp[execOp,ho,hs.ev hc,hs.ev (hy rfl),asBool]
theorem aS {c x y:Operand} {v:Value} (hc:ev L c=some (.bool true)) (hx:ev L x=some v):Yl P n B w0 (.pick c x y) ty L R v:=
 aPp (b:=true) (u:=undef) hc (λ_=>hx) (λh=>by cases h)
theorem aO {c x y:Operand} {v:Value} (hc:ev L c=some (.bool false)) (hy:ev L y=some v):Yl P n B w0 (.pick c x y) ty L R v:=
 aPp (b:=false) (v:=undef) hc (λh=>by cases h) (λ_=>hy)
theorem aL {x:Operand} {t e:TypeId} {A:AF} {m c:Nat} (ht:P.underlying t=some (.slice e)) (hx:ev L x=some (.slice A m c)):Yl P n B w0 (.call {callee:= .builtin .len,args:= #[x],argTypes:= #[t]}) ty L R (.int .i64 (m:Int)):=by
 intro a w o ho _ hs _;simp[execOp,ho,resolve,invoke,builtin,Builtin.len_,mh ht,hs.ev hx,goInt]
theorem sW {x y:Operand} {ts:Array TypeId} {k:IntKind} {p q:Int} (hx:ev L x=some (.int k p)) (hy:ev L y=some (.int k q)):Yl P n B w0 (.call {callee:= .builtin .min,args:= #[x,y],argTypes:=ts}) ty L R (.int k (min p q)):=by
 intro a w o ho _ hs _;have:(if q<p then q else p)=min p q:=G
 simp[execOp,ho,resolve,invoke,builtin,Builtin.min_,Builtin.min2,hs.ev hx,hs.ev hy,this]
theorem aPr {x y:Operand} {ts:Array TypeId} {k:IntKind} {p q:Int} (hx:ev L x=some (.int k p)) (hy:ev L y=some (.int k q)):Yl P n B w0 (.call {callee:= .builtin .max,args:= #[x,y],argTypes:=ts}) ty L R (.int k (max p q)):=by
 intro a w o ho _ hs _;have:(if p<q then q else p)=max p q:=G
 simp[execOp,ho,resolve,invoke,builtin,Builtin.max_,Builtin.max2,hs.ev hx,hs.ev hy,this]
theorem fD {x y:Operand} {t u:TypeId} {k:IntKind} {p q:Int} (hx:ev L x=some (.int k p)) (hy:ev L y=some (.int k q)):Yl P n B w0 (.binOp .eql t x y u) ty L R (.bool (decide (p=q))):=by
 intro a w o ho _ hs _;have:(p==q)=decide (p=q):=by by_cases h:p=q<;>simp[h]
 simp[execOp,ho,binOp,eqGuard,hs.ev hx,hs.ev hy,Op.intCmp,this]
theorem jP {x y:Operand} {t u:TypeId} {k:IntKind} {p q:Int} (hx:ev L x=some (.int k p)) (hy:ev L y=some (.int k q)):Yl P n B w0 (.binOp .neq t x y u) ty L R (.bool (decide (p≠q))):=by
 intro a w o ho _ hs _;have:(p !=q)=decide (p≠q):=by by_cases h:p=q<;>simp[h]
 simp[execOp,ho,binOp,eqGuard,hs.ev hx,hs.ev hy,Op.intCmp,this]
theorem eZ {x y:Operand} {t u:TypeId} {k:IntKind} {p q:Int} (hx:ev L x=some (.int k p)) (hy:ev L y=some (.int k q)):Yl P n B w0 (.binOp .lss t x y u) ty L R (.bool (decide (p<q))):=by
 intro a w o ho _ hs _;simp[execOp,ho,binOp,eqGuard,hs.ev hx,hs.ev hy,Op.intCmp]
theorem qP {x y:Operand} {t u:TypeId} {k:IntKind} {p q:Int} (hx:ev L x=some (.int k p)) (hy:ev L y=some (.int k q)):Yl P n B w0 (.binOp .leq t x y u) ty L R (.bool (decide (p<=q))):=by
 intro a w o ho _ hs _;simp[execOp,ho,binOp,eqGuard,hs.ev hx,hs.ev hy,Op.intCmp]
theorem dA {x y:Operand} {t u:TypeId} {k:IntKind} {p q:Int} (hx:ev L x=some (.int k p)) (hy:ev L y=some (.int k q)):Yl P n B w0 (.binOp .gtr t x y u) ty L R (.bool (decide (q<p))):=by
 intro a w o ho _ hs _;simp[execOp,ho,binOp,eqGuard,hs.ev hx,hs.ev hy,Op.intCmp]
theorem iD {x y:Operand} {t u:TypeId} {k:IntKind} {p q:Int} (hx:ev L x=some (.int k p)) (hy:ev L y=some (.int k q)):Yl P n B w0 (.binOp .geq t x y u) ty L R (.bool (decide (q<=p))):=by
 intro a w o ho _ hs _;simp[execOp,ho,binOp,eqGuard,hs.ev hx,hs.ev hy,Op.intCmp]
theorem aPy {x y:Operand} {t u:TypeId} {k:IntKind} {p q:Int} (hx:ev L x=some (.int k p)) (hy:ev L y=some (.int k q)):Yl P n B w0 (.binOp .add t x y u) ty L R (.int k (k.wrap (p+q))):=by
 intro a w o ho _ hs _;simp[execOp,ho,binOp,eqGuard,hs.ev hx,hs.ev hy,Op.intArith]
theorem bDi {x y:Operand} {t u:TypeId} {k:IntKind} {p q:Int} (hx:ev L x=some (.int k p)) (hy:ev L y=some (.int k q)):Yl P n B w0 (.binOp .sub t x y u) ty L R (.int k (k.wrap (p-q))):=by
 intro a w o ho _ hs _;simp[execOp,ho,binOp,eqGuard,hs.ev hx,hs.ev hy,Op.intArith]
theorem bDk {x y:Operand} {t u:TypeId} {k:IntKind} {p q:Int} (hx:ev L x=some (.int k p)) (hy:ev L y=some (.int k q)):Yl P n B w0 (.binOp .mul t x y u) ty L R (.int k (k.wrap (p*q))):=by
 intro a w o ho _ hs _;simp[execOp,ho,binOp,eqGuard,hs.ev hx,hs.ev hy,Op.intArith]
theorem BA {p:Int} (h: -9223372036854775808<=p/\p<=9223372036854775807):IntKind.i64.wrap p=p:=by rw[Bn];omega
theorem cK {x y:Operand} {t u:TypeId} {p q:Int} (hx:ev L x=some (.int .i64 p)) (hy:ev L y=some (.int .i64 q)) (h: -9223372036854775808<=p+q/\p+q<=9223372036854775807:=by omega):Yl P n B w0 (.binOp .add t x y u) ty L R (.int .i64 (p+q)):=by
 have:=aPy (P:=P) (n:=n) (B:=B) (w0:=w0) (R:=R) (ty:=ty) (t:=t) (u:=u) hx hy;rwa[BA h] at this
theorem mE {x y:Operand} {t u:TypeId} {p q:Int} (hx:ev L x=some (.int .i64 p)) (hy:ev L y=some (.int .i64 q)) (h: -9223372036854775808<=p-q/\p-q<=9223372036854775807:=by omega):Yl P n B w0 (.binOp .sub t x y u) ty L R (.int .i64 (p-q)):=by
 have:=bDi (P:=P) (n:=n) (B:=B) (w0:=w0) (R:=R) (ty:=ty) (t:=t) (u:=u) hx hy;rwa[BA h] at this
theorem jJ {x y:Operand} {t u:TypeId} {p q:Int} (hx:ev L x=some (.int .i64 p)) (hy:ev L y=some (.int .i64 q)) (h: -9223372036854775808<=p*q/\p*q<=9223372036854775807:=by omega):Yl P n B w0 (.binOp .mul t x y u) ty L R (.int .i64 (p*q)):=by
 have:=bDk (P:=P) (n:=n) (B:=B) (w0:=w0) (R:=R) (ty:=ty) (t:=t) (u:=u) hx hy;rwa[BA h] at this
theorem rR {x y:Operand} {t u:TypeId} {k:IntKind} {p q:Int} (hx:ev L x=some (.int k p)) (hy:ev L y=some (.int k q)) (h0:0<=p:=by omega) (h:0<q:=by omega):Yl P n B w0 (.binOp .rem t x y u) ty L R (.int k (p%q)):=by
 intro a w o ho _ hs _;have h1: ¬q=0:=G
 simp[execOp,ho,binOp,eqGuard,hs.ev hx,hs.ev hy,Op.intDiv,h1,Int.tmod_eq_emod_of_nonneg h0]
theorem bDj {x y:Operand} {t u:TypeId} {k:IntKind} {p q:Int} (hx:ev L x=some (.int k p)) (hy:ev L y=some (.int k q)) (h0:0<=p) (h:0<q):Yl P n B w0 (.binOp .quo t x y u) ty L R (.int k (k.wrap (p/q))):=by
 intro a w o ho _ hs _;have h1: ¬q=0:=G
 simp[execOp,ho,binOp,eqGuard,hs.ev hx,hs.ev hy,Op.intDiv,h1,Int.tdiv_eq_ediv_of_nonneg h0]
theorem vP {x y:Operand} {t u:TypeId} {p q:Int} (hx:ev L x=some (.int .i64 p)) (hy:ev L y=some (.int .i64 q)) (h0:0<=p) (h:0<q) (hm:p<=9223372036854775807):Yl P n B w0 (.binOp .quo t x y u) ty L R (.int .i64 (p/q)):=by
 have:=bDj (P:=P) (n:=n) (B:=B) (w0:=w0) (R:=R) (ty:=ty) (t:=t) (u:=u) hx hy h0 h;have h1:p/q<=p:=Dt q h0;have h2:0<=p/q:=Et h0 G;rwa[BA G] at this
theorem dW {x:Operand} {t:TypeId} {b:Bool} (hx:ev L x=some (.bool b)):Yl P n B w0 (.unOp .not t x) ty L R (.bool !b):=by
 intro a w o ho _ hs _;simp[execOp,ho,hs.ev hx,Op.unary]
theorem uH {x:Operand} {t:TypeId} {p:Prop} [Decidable p] (hx:ev L x=some (.bool (decide p))):Yl P n B w0 (.unOp .not t x) ty L R (.bool (decide (¬p))):=by
 have:=dW (P:=P) (n:=n) (B:=B) (w0:=w0) (R:=R) (ty:=ty) (t:=t) hx;rwa[show(!decide p)=decide (¬p) by simp] at this
theorem mV {x:Operand} {s d:TypeId} {k j:IntKind} {p:Int} {td:TypeDesc} (fj:P.underlying s=some td) (hd:P.underlying d=some (.int k)) (hx:ev L x=some (.int j p)):Yl P n B w0 (.convert s d x) ty L R (.int k (k.wrap p)):=by
 intro a w o ho _ hs _;simp[execOp,ho,convert,mh fj,mh hd,hs.ev hx,Conv.intToInt]
theorem iR {x:Operand} {s d:TypeId} {j:IntKind} {p:Int} {td:TypeDesc} (fj:P.underlying s=some td) (hd:P.underlying d=some (.int .i64)) (hx:ev L x=some (.int j p)) (h: -9223372036854775808<=p/\p<=9223372036854775807:=by omega):Yl P n B w0 (.convert s d x) ty L R (.int .i64 p):=by
 have:=mV (P:=P) (n:=n) (B:=B) (w0:=w0) (R:=R) (ty:=ty) fj hd hx;rwa[BA h] at this
end
end Go.Eng
namespace Go.Eng
open Go Go.RowKit
def pat (A:AF) (j:Nat):AF:=A.map (·.add j)
theorem add_add (a:Addr) (i j:Nat):(a.add i).add j=a.add (i+j):=by
 unfold Addr.add;by_cases h1:i=0<;>by_cases h2:j=0<;>simp[h1,h2,mo]
theorem CP (A:AF):pat A 0=A:=by cases A<;>simp[pat,Addr.add]
def rd (l:AH) (i:Int):Int:=l.getD i.toNat 0
def ints (k:IntKind) (l:AH):AG:=l.map (Value.int k)
theorem bX (k:IntKind) (l:AH):(ints k l).length=l.length:=by simp[ints]
theorem ints_at {k:IntKind} {l:AH} {i:Int} (h0:0<=i) (h:i<l.length):(ints k l)[i.toNat]? =some (.int k (rd l i)):=by
 have hl:i.toNat<l.length:=G
 simp[ints,rd,ai,av hl]
def GX:TypeDesc->Bool
 | .struct _=>true
 | .array _ _=>true
 |_=>false
section
variable {P:Program} {n:Nd} {B:Nat} {w0:World} {L:Env} {R:List Row} {ty:TypeId}
theorem RF {t:TypeId} {d:TypeDesc} (hu:P.underlying t=some d) (w:World):(isAgg t).run P w= .ok (GX d) w:=by
 simp only[isAgg,jq,mh hu,jm];cases d<;>rfl
theorem Rd.cell {w:World} {A:AF} {m c sz:Nat} {xs:AG} (h:Rd w A m c sz xs) {j:Nat} {v:Value} (hv:xs[j]? =some v): ∃a,pat A j=some a/\w.cell? a=some v:=by
 obtain⟨a,rfl,hc⟩:=h.at_ j v hv;exact⟨_,rfl,hc⟩
theorem mU {x ix:Operand} {t e:TypeId} {k:IntKind} {A:AF} {m c sz:Nat} {i:Int} {xs:AG} (ht:P.underlying t=some (.slice e)) (hi:(P.info? e).map (·.size)=some sz) (hx:ev L x=some (.slice A m c)) (se:ev L ix=some (.int k i))
  (hr:RdC B w0 R A m c sz xs) (hsz:Nat.blt 0 sz=true) (h0:0<=i:=by omega) (h1:i<m:=by omega):Yl P n B w0 (.indexAddr t x ix) ty L R (.pointer (pat A (i.toNat*sz))):=by
 intro a w o ho _ hs hp;have gr:=hr w hp;obtain⟨i0,bb,hsz0⟩:=iw.1 hi
 have bp:i.toNat*sz<xs.length:=by
  rw[gr.len];exact Nat.mul_lt_mul_of_pos_right G (ak hsz)
 obtain⟨ad,rfl,_⟩:=gr.at_ (i.toNat*sz) xs[i.toNat*sz] (by simp[bp]);simp[execOp,ho,Instr.indexAt,hs.ev hx,hs.ev se,asIntOf,mh ht,h0,h1,sizeOf,typeInfo,bb,hsz0,pat]
theorem aF {x ix:Operand} {t e:TypeId} {k:IntKind} {A:AF} {m c:Nat} {i:Int} {xs:AG} (ht:P.underlying t=some (.slice e)) (hi:(P.info? e).map (·.size)=some 1) (hx:ev L x=some (.slice A m c)) (se:ev L ix=some (.int k i))
  (hr:RdC B w0 R A m c 1 xs) (h0:0<=i:=by omega) (h1:i<m:=by omega):Yl P n B w0 (.indexAddr t x ix) ty L R (.pointer (pat A i.toNat)):=by
 have:=mU (n:=n) (ty:=ty) ht hi hx se hr rfl h0 h1;rwa[qf] at this
theorem zI {x ix:Operand} {t e:TypeId} {k:IntKind} {p A:AF} {m c sz sz' N j0:Nat} {i:Int} {xs:AG} (ht:P.underlying t=some (.array N e)) (hi:(P.info? e).map (·.size)=some sz) (hx:ev L x=some (.pointer p)) (Lk:p=pat A j0) (se:ev L ix=some (.int k i))
  (hr:RdC B w0 R A m c sz' xs) (bp:j0<xs.length) (h0:0<=i) (h1:i<N):Yl P n B w0 (.indexAddr t x ix) ty L R (.pointer (pat A (j0+i.toNat*sz))):=by
 intro a w o ho _ hs hp;have gr:=hr w hp;obtain⟨i0,bb,hsz0⟩:=iw.1 hi;obtain⟨ad,rfl,_⟩:=gr.at_ j0 xs[j0] (by simp[bp]);subst Lk;simp[execOp,ho,Instr.indexAt,Instr.sureAddr,hs.ev hx,hs.ev se,asIntOf,mh ht,h0,h1,sizeOf,typeInfo,bb,hsz0,pat,add_add]
theorem lC {x:Operand} {t:TypeId} {d:TypeDesc} {p A:AF} {j m c sz:Nat} {xs:AG} {v:Value} (hu:P.underlying t=some d) (hd:GX d=false) (hx:ev L x=some (.pointer p)) (hp:p=pat A j) (hr:RdC B w0 R A m c sz xs) (hv:xs[j]? =some v):
  Yl P n B w0 (.load t x) ty L R v:=by
 intro a w o ho _ hs hw;obtain⟨ad,h1,h2⟩:=(hr w hw).cell hv;subst hp;simp[execOp,ho,Instr.loadAt,Instr.sureAddr,hs.ev hx,h1,loadVar,RF hu,hd,h2]
theorem aU {x:Operand} {t:TypeId} {d:TypeDesc} {A:AF} {m c:Nat} {k:IntKind} {l:AH} {i:Int} (hu:P.underlying t=some d) (hd:GX d=false) (hx:ev L x=some (.pointer (pat A i.toNat))) (hr:RdC B w0 R A m c 1 (ints k l)) (h0:0<=i:=by omega) (h1:i<m:=by omega):
  Yl P n B w0 (.load t x) ty L R (.int k (rd l i)):=by
 intro a w o ho Hk hs hw;have hl:=(hr w hw).len;rw[bX] at hl;exact lC hu hd hx rfl hr (ints_at h0 G) a w o ho Hk hs hw
theorem aPu {x:Operand} {t:TypeId} {d:TypeDesc} {p A:AF} {j m c sz st:Nat} {xs:AG} (hu:P.underlying t=some d) (hd:GX d=true) (ge:(P.info? t).map (·.size)=some st) (hx:ev L x=some (.pointer p)) (hp:p=pat A j) (hr:RdC B w0 R A m c sz xs) (hj:j+st<=xs.length) (Mq:0<st):
  Yl P n B w0 (.load t x) ty L R (.agg ((xs.drop j).take st).toArray):=by
 intro a w o ho _ hs hw;have gr:=hr w hw;obtain⟨i0,bb,hsz0⟩:=iw.1 ge;obtain⟨ad,rfl,_⟩:=gr.at_ j xs[j] cD;subst hp
 have hc:(loadCells (ad.add j) st).run P w= .ok ((xs.drop j).take st).toArray w:=by
  have:=run_loadCells_list (P:=P) w (ad.add j) ((xs.drop j).take st) (λq v hq=>by
   have Ql:xs[j+q]? =some v:=by
    rw[ou] at hq;split at hq
    ·simpa using hq
    ·cases hq
   obtain⟨a',np,hc⟩:=gr.at_ _ _ Ql;obtain rfl:=je np
   rw[add_add];exact hc)
  have hl:((xs.drop j).take st).length=st:=cH
  rwa[hl] at this
 simp[execOp,ho,Instr.loadAt,Instr.sureAddr,hs.ev hx,pat,loadVar,RF hu,hd,sizeOf,typeInfo,bb,hsz0,hc]
theorem XH {x:Operand} {t:TypeId} {fs:Array Field} {f:Field} {k st:Nat} {a0:Addr} (hu:P.underlying t=some (.struct fs)) (hf:fs[k]? =some f) (ge:(P.info? f.type).map (·.size)=some st) (Mq:Nat.blt 0 st=true) (hx:ev L x=some (.pointer (some a0))):
  Yl P n B w0 (.fieldAddr t x k) ty L R (.pointer (some (a0.add f.offset))):=by
 intro a w o ho _ hs _;obtain⟨i0,bb,hsz0⟩:=iw.1 ge;have: ¬st=0:=by have:=ak Mq;omega
 simp[execOp,ho,Instr.fieldAt,Instr.sureAddr,hs.ev hx,mh hu,hf,fieldPlace,sizeOf,typeInfo,bb,hsz0,this]
theorem aG {x:Operand} {a0:Addr} (hx:ev L x=some (.pointer (some a0))):Yl P n B w0 (.nilCheck x) ty L R (.pointer (some a0)):=by
 intro a w o ho _ hs _;simp[execOp,ho,hs.ev hx]
theorem EU {x:Operand} {i:Nat} {vs:Array Value} {v:Value} (hx:ev L x=some (.tuple vs)) (hv:vs[i]? =some v):Yl P n B w0 (.extract x i) ty L R v:=by
 intro a w o ho _ hs _;simp[execOp,ho,hs.ev hx,Instr.extract,hv]
def evs (L:Env):List Operand->Option (AG)
 |[]=>some []
 |x::r=>match ev L x,evs L r with
  |some v,some vs=>some (v::vs)
  |_,_=>none
theorem Sat.evs {a:Act} (hs:Sat n L a): ∀ {xs:List Operand} {vs:AG},evs L xs=some vs->xs.map a.eval=vs
 |[],vs,h=>by simpa [Eng.evs] using h
 | x::r,vs,h=>by
  unfold Eng.evs at h;split at h
  ·rename_i v us h1 h2;obtain rfl:=je h;rw[ko,hs.ev h1,hs.evs h2]
  ·cases h
theorem mG {fn:Fn} {ps cs:List Operand} {vs us:AG} (h1:evs L ps=some vs) (h2:evs L cs=some us):Yl P n B w0 (.makeFunc fn ps.toArray cs.toArray) ty L R (.func fn vs.toArray us.toArray):=by
 intro a w o ho _ hs _;have e1:=hs.evs h1;have e2:=hs.evs h2;simp[execOp,ho,Instr.makeFunc,e1,e2]
def jH (A:AF) (l c sz:Nat):AF:=if c=l then A else A.map (·.add (l*sz))
theorem bGa {w:World} {A:AF} {m sz c l h:Nat} {xs:AG} (hr:Rd w A m c sz xs) (h1:l<=h) (h2:h<=m):Rd w (jH A l c sz) (h-l) (c-l) sz ((xs.drop (l*sz)).take ((h-l)*sz)):=by
 have hc:=hr.le;have e1:h*sz=l*sz+(h-l)*sz:=by rw[<-xz];congr 1;omega
 have e2:h*sz<=m*sz:=ut _ h2;refine⟨?_,by have:=hr.max;omega,G,λj v hv=> ?_⟩
 ·rw[ax,az,hr.len];omega
 ·rw [ou] at hv;split at hv
  ·rename_i hj;have Qr:xs[l*sz+j]? =some v:=by simpa using hv
   obtain⟨a,rfl,vd⟩:=hr.at_ _ _ Qr;unfold jH;by_cases kt:c=l
   ·have:h=l:=G
    subst this;simp at hj
   ·rw [df kt];exact⟨_,rfl,by rw[add_add];exact vd⟩
  ·cases hv
theorem RdC.cut {A:AF} {m sz c l h:Nat} {xs:AG} (hr:RdC B w0 R A m c sz xs) (h1:l<=h) (h2:h<=m):RdC B w0 R (jH A l c sz) (h-l) (c-l) sz ((xs.drop (l*sz)).take ((h-l)*sz)):=
 λw hw=>bGa (hr w hw) h1 h2
theorem RdC.cutI {A:AF} {m c l h:Nat} {k:IntKind} {xs:AH} (hr:RdC B w0 R A m c 1 (ints k xs)) (h1:l<=h) (h2:h<=m):RdC B w0 R (jH A l c 1) (h-l) (c-l) 1 (ints k ((xs.drop l).take (h-l))):=by
 have:=hr.cut h1 h2;simpa [ints,Cb,Hr] using this
theorem RdC.fromI {A:AF} {m c l:Nat} {k:IntKind} {xs:AH} (hr:RdC B w0 R A m c 1 (ints k xs)) (h1:l<=m):RdC B w0 R (jH A l c 1) (m-l) (c-l) 1 (ints k (xs.drop l)):=by
 intro w hw;have:=hr.cutI h1 (dx m) w hw;have hl:=(hr w hw).len;rw[bX] at hl;rwa[bi (by rw[az];omega)] at this
theorem RdC.to {A:AF} {m c h sz:Nat} {xs:AG} (hr:RdC B w0 R A m c sz xs) (h2:h<=m):RdC B w0 R A h c sz (xs.take (h*sz)):=by
 intro w hw;have gr:=hr w hw;have hl:=gr.len;have ox:h*sz<=m*sz:=ut _ h2;refine⟨by rw[ax];omega,by have:=gr.max;omega,by have:=gr.le;omega,λj v hv=> ?_⟩;refine gr.at_ j v ?_;rw[ou] at hv;split at hv
 ·exact hv
 ·cases hv
theorem RdC.toI {A:AF} {m h c:Nat} {k:IntKind} {xs:AH} (hr:RdC B w0 R A m c 1 (ints k xs)) (h2:h<=m):RdC B w0 R A h c 1 (ints k (xs.take h)):=by
 have:=hr.to h2;simpa [ints,Cb] using this
theorem aHf {x y z:Operand} {t e:TypeId} {A:AF} {m c sz:Nat} {k1 k2:IntKind} {l h:Int} (ht:P.underlying t=some (.slice e)) (hi:(P.info? e).map (·.size)=some sz) (hx:ev L x=some (.slice A m c)) (hy:ev L y=some (.int k1 l)) (hz:ev L z=some (.int k2 h)) {xs:AG} (hr:RdC B w0 R A m c sz xs) (h0:0<=l) (h1:l<=h) (h2:h<=m):
  Yl P n B w0 (.slice t x (some y) (some z) none) ty L R (.slice (jH A l.toNat c sz) (h.toNat-l.toNat) (c-l.toNat)):=by
 intro a w o ho _ hs hp;have ox:=(hr w hp).le;obtain⟨i0,bb,hsz0⟩:=iw.1 hi;have ue:P.elem t=e:=by simp[Program.elem,ht]
 have rn:P.underlying t=some (.slice (P.elem t)):=by rw[ue];exact ht
 simp only[execOp,ho,kv,Ay,hs.ev hx,hs.ev hy,hs.ev hz,jq,Aa w t _ _ _ _ rn,run_slice_lh w t A m c rn k1 k2 l h h0 h1 G,ue];simp[sizeOf,typeInfo,bb,hsz0,sliced,jH]
theorem dF {x y:Operand} {t e:TypeId} {A:AF} {m c sz:Nat} {k1:IntKind} {l:Int} (ht:P.underlying t=some (.slice e)) (hi:(P.info? e).map (·.size)=some sz) (hx:ev L x=some (.slice A m c)) (hy:ev L y=some (.int k1 l)) (h0:0<=l:=by omega) (h1:l<=m:=by omega):
  Yl P n B w0 (.slice t x (some y) none none) ty L R (.slice (jH A l.toNat c sz) (m-l.toNat) (c-l.toNat)):=by
 intro a w o ho _ hs _;obtain⟨i0,bb,hsz0⟩:=iw.1 hi;have ue:P.elem t=e:=by simp[Program.elem,ht]
 have rn:P.underlying t=some (.slice (P.elem t)):=by rw[ue];exact ht
 simp only[execOp,ho,kv,Ay,hs.ev hx,hs.ev hy,jq,Aa w t _ _ _ _ rn,run_slice_l w t A m c rn k1 l h0 h1,ue];simp[sizeOf,typeInfo,bb,hsz0,sliced,jH]
theorem dV {x z:Operand} {t e:TypeId} {A:AF} {m c sz:Nat} {k2:IntKind} {h:Int} (ht:P.underlying t=some (.slice e)) (hi:(P.info? e).map (·.size)=some sz) (hx:ev L x=some (.slice A m c)) (hz:ev L z=some (.int k2 h)) {xs:AG} (hr:RdC B w0 R A m c sz xs) (h0:0<=h:=by omega) (h2:h<=m:=by omega):
  Yl P n B w0 (.slice t x none (some z) none) ty L R (.slice A h.toNat c):=by
 intro a w o ho _ hs hp;have ox:=(hr w hp).le;obtain⟨i0,bb,hsz0⟩:=iw.1 hi;have ue:P.elem t=e:=by simp[Program.elem,ht]
 have rn:P.underlying t=some (.slice (P.elem t)):=by rw[ue];exact ht
 simp only[execOp,ho,kv,Ay,hs.ev hx,hs.ev hz,jq,Aa w t _ _ _ _ rn,run_slice_h w t A m c rn k2 h h0 G,ue]
 have:(if c=0 then A else Option.map (λx=>x.add 0) A)=A:=by
  split
  ·rfl
  ·exact CP A
 simp[sizeOf,typeInfo,bb,hsz0,sliced,this]
def Enters (P:Program) (f:FuncId):Prop:= ∀args w,(callFunc f args).run P w= .ok (.enter f args) w
theorem enters {f:FuncId} {fn:Func} (hf:P.funcs[f]? =some fn) (h1:(fn.name== "runtime.NumGoroutine")=false) (h2:fn.body.isNone=false):Enters P f:=by
 intro args w;unfold callFunc;simp only[program,jq,Sem.run,jm,hf];simp[h1,h2]
theorem AQ {cal:Operand} {w6:List Operand} {ts:Array TypeId} {f:FuncId} {ps cs:Array Value} {vs:AG} {Post:Value->List Row->Prop} (he:Enters P f) (hf:ev L cal=some (.func (.func f) ps cs)) (ha:evs L w6=some vs) (hc:Ct P f (ps++vs.toArray++cs) B w0 R Post):
  Ac P n B w0 (.call {callee:= .value cal,args:=w6.toArray,argTypes:=ts}) ty L R Post:=by
 intro a w o K Q ho _ hs hp hk;have e1:=hs.evs ha;unfold Oper.wp;simp only[execOp,ho,resolve,hs.ev hf,Deferred.ofValue,invoke,jq,ng,jm,uf,e1,he (ps++vs.toArray++cs) w,Oper.upon];refine(hc w hp).mono ?_;rintro e w' ⟨v,R',rfl,da,hv⟩;exact hk v w' R' da hv
theorem aC {f:FuncId} {w6:List Operand} {ts:Array TypeId} {vs:AG} {Post:Value->List Row->Prop} (he:Enters P f) (ha:evs L w6=some vs) (hc:Ct P f vs.toArray B w0 R Post):
  Ac P n B w0 (.call {callee:= .value (.func f),args:=w6.toArray,argTypes:=ts}) ty L R Post:=
 AQ (ps:= #[]) (cs:= #[]) he rfl ha (by simpa using hc)
end
end Go.Eng
namespace Go.Eng
open Go Go.RowKit
section
variable {P:Program} {n:Nd} {B:Nat} {w0:World} {L:Env} {R:List Row} {ty:TypeId}
theorem Row.lies_nil (B:Nat) (w:World) (e sz:Nat):(Row.mk e sz none 0 0 [] false).lies B w:=World.ownsRow_nil w B e sz
theorem Hp.nil {w:World} (h:Hp B w0 w R) (e sz:Nat):Hp B w0 w (⟨e,sz,none,0,0,[],false⟩::R):=
 ⟨h.below,h.base,λr hr=>by
  rcases jc.1 hr with rfl|hr
  ·exact Row.lies_nil B w e sz
  ·exact h.own r hr,ja.2 ⟨λr _ a a' ha _=>(by cases ha),h.apart⟩,h.late⟩
theorem Hp.new {w:World} (h:Hp B w0 w R) (cs:Array Value) (e m sz:Nat) (hm:m<=maxLen) (hs:cs.size=m*sz):Hp B w0 (w.alloc (.cells cs e)) (⟨e,sz,some ⟨w.heap.size,0,none⟩,m,m,cs.toList,false⟩::R):=by
 refine h.join (Rn:=[_]) ⟨(Fu _ _).alloc (dx _) _,cD,λr hr=> ?_,pu _ _,Late.alloc _ _⟩;obtain rfl:=ic.1 hr;exact World.ownsRow_lit w cs m (dx _) hm hs
theorem Hp.upd {w w':World} (h:Hp B w0 w R) {i:Nat} {r r':Row} (hi:R[i]? =some r) {row:Option Nat} (hg:w.grownBy w' row) (hd:w.drawn<=w'.drawn) (im: ∀k,row=some k-> ∃a,r.A=some a/\a.block=k) (hl:r'.lies B w')
  (hb: ∀a',r'.A=some a'->(∃a,r.A=some a/\a.block=a'.block)\/w.heap.size<=a'.block):Hp B w0 w' (R.set i r'):=by
 have hr:r∈R:=gu hi;have yb:i<R.length:=(fw.1 hi).1
 have keep: ∀(q:Row),q.lies B w->(∀a,q.A=some a-> ∀a',r.A=some a'->a.block≠a'.block)->q.lies B w':=by
  intro q hq cv;refine Row.lies_of_block hq λa ha=> ?_;refine hg.block a.block (Row.lies_lt hq a ha).2 λe=> ?_;obtain⟨a',np,hk⟩:=im _ e.symm;exact cv a ha a' np hk.symm
 refine⟨h.below.grown hg h.base (λk hk=> ?_),qy h.base hg.size,λq hq=> ?_,?_,h.late.trans ⟨hd,λk o hk hc=> ?_⟩⟩
 ·obtain ⟨a,ha,rfl⟩:=im k hk;exact(Row.lies_lt (h.own r hr) a ha).1
 ·obtain ⟨j,hj⟩:=List.mem_iff_getElem?.1 hq;rw[xm] at hj;by_cases pn:i=j
  ·rw [di pn] at hj;rw[di yb] at hj;obtain rfl:=je hj;exact hl
  ·rw [df pn] at hj;refine keep q (h.own q (gu hj)) ?_;intro a ha a' np;have s5:=(fw.1 hj).1;have Te:=(fw.1 hj).2;have i4:=(fw.1 hi).2;rcases Co pn with bp|bp
   ·have:=ed.1 h.apart i j yb s5 bp;rw[Te,i4] at this;exact Gw (this a' a np ha)
   ·have:=ed.1 h.apart j i s5 yb bp;rw[Te,i4] at this;exact this a a' ha np
 ·have Pr: ∀j (hj:j<R.length),i≠j->r'.apart R[j]:=by
   intro j hj pn a' aj np Vp;have hlj:=Row.lies_lt (h.own R[j] (mg hj)) aj Vp;rcases hb a' np with⟨a,ha,e⟩|Ds
   ·have i4:=(fw.1 hi).2;rw[<-e];rcases Co pn with bp|bp
    ·have:=ed.1 h.apart i j yb hj bp;rw[i4] at this;exact this a aj ha Vp
    ·have:=ed.1 h.apart j i hj yb bp;rw[i4] at this;exact Gw (this aj a Vp ha)
   ·omega
  refine ed.2 λp q hp hq Zq=> ?_;simp only[Ex] at hp hq;by_cases h1:i=p
  ·subst h1;rw[List.getElem_set_self,Bw G];exact Pr q hq G
  ·by_cases h2:i=q
   ·subst h2;rw[List.getElem_set_self,Bw h1];exact Row.apart_symm (Pr p hp G)
   ·rw [Bw h1,Bw h2];exact ed.1 h.apart p q hp hq Zq
 ·rw [hg.block k (gp.1 hk).1 λe=> ?_]
  ·exact hk
  ·obtain ⟨a,ha,rfl⟩:=im k e.symm;obtain⟨cs,e',fr,cj⟩:=Row.lies_cells (h.own r hr) ha;rw[cj] at hk;cases hk;cases hc
theorem World.grownBy_refl' (w:World) (row:Option Nat):w.grownBy w row:=⟨rfl,rfl,rfl,dx _,λ_ _ _=>rfl⟩
theorem Row.lies_w {w:World} {r:Row} (h:r.lies B w) (nc:r.ro=false):w.ownsRow B r.e r.sz (.slice r.A r.n r.c) r.n r.xs:=by
 unfold Row.lies at h;simpa only[nc] using h
theorem bHy {x y:Operand} {t e:TypeId} {z:Value} {bytes m:Nat} (ht:P.underlying t=some (.slice e)) (dt:(P.info? e).map (λi=>(i.zero,i.size,i.bytes))=some (some z,1,bytes)) (hz:z.cells= #[z])
  (hx:ev L x=some (.int .i64 (m:Int))) (hy:ev L y=some (.int .i64 (m:Int))) (hm:m*bytes<=281474976710656) (Jf:m<=9223372036854775807):
  Ac P n B w0 (.makeSlice t x y) ty L R (λv R'=> ∃g,v= .slice (some ⟨g,0,none⟩) m m/\R'=⟨e,1,some ⟨g,0,none⟩,m,m,List.replicate m z,false⟩::R):=by
 intro a w o K Q ho _ hs hp hk;obtain⟨i0,hi,zd⟩:=iw.1 dt;simp only[Ad] at zd;obtain⟨vt,xb,s7⟩:=zd
 have hb:(i0.bytes:Int)*(m:Int)<=281474976710656:=by
  have h:((m*bytes:Nat):Int)<=281474976710656:=G
  rw[s7,Cz];rwa[Av] at h
 have hr:=run_make (P:=P) w t e i0 z ht hi vt .i64 .i64 m m G (mf _) hb G;simp only[cz,xb,qf,hz] at hr;unfold Oper.wp;simp only[execOp,ho,hs.ev hx,hs.ev hy,jq,hr,jm,ng,Oper.upon];have hh:=hp.new (madeCells #[z] m) e m 1 (by unfold maxLen;omega) (by simp[size_madeCells]);rw[toList_madeCells_one] at hh;exact hk _ _ _ hh ⟨_,rfl,rfl⟩
theorem aKc {x y:Operand} {t e:TypeId} {z:Value} {bytes:Nat} {m:Int} (ht:P.underlying t=some (.slice e)) (dt:(P.info? e).map (λi=>(i.zero,i.size,i.bytes))=some (some z,1,bytes)) (hz:z.cells= #[z])
  (hx:ev L x=some (.int .i64 m)) (hy:ev L y=some (.int .i64 m)) (h0:0<=m) (hm:m*bytes<=281474976710656) (Jf:m<=9223372036854775807):
  Ac P n B w0 (.makeSlice t x y) ty L R (λv R'=> ∃g,v= .slice (some ⟨g,0,none⟩) m.toNat m.toNat/\R'=⟨e,1,some ⟨g,0,none⟩,m.toNat,m.toNat,List.replicate m.toNat z,false⟩::R):=by
 obtain⟨q,rfl⟩:=Int.eq_ofNat_of_zero_le h0;have h:((q*bytes:Nat):Int)<=281474976710656:=by rw[Av];exact hm
 have:=bHy (P:=P) (n:=n) (B:=B) (w0:=w0) (L:=L) (R:=R) (ty:=ty) (m:=q) ht dt hz hx hy G G;simpa only[cz] using this
theorem kF {e:TypeId} {z:Value} {sz:Nat} (dt:(P.info? e).map (·.zero)=some (some z)) (hz:z.cells.size=sz):Ac P n B w0 (.alloc e) ty L R (λv R'=> ∃g,v= .pointer (some ⟨g,0,none⟩)/\R'=⟨e,sz,some ⟨g,0,none⟩,1,1,z.cells.toList,false⟩::R):=by
 intro a w o K Q ho _ hs hp hk;obtain⟨i0,hi,vt⟩:=iw.1 dt;have hh:=hp.new z.cells e 1 sz (by unfold maxLen;omega) G;unfold Oper.wp
 have hr:(Instr.alloc e true (.tuple #[])).run P w= .ok (.pointer (some ⟨w.heap.size,0,none⟩)) (w.alloc (.cells z.cells e)):=by
  simp[Instr.alloc,zeroValue,typeInfo,hi,vt,newVar,newRow]
 simp only[execOp,ho,jq,hr,jm,ng,Oper.upon];exact hk _ _ _ hh ⟨_,rfl,rfl⟩
theorem cB {e:TypeId} {x:Operand} {v:Value} {sz:Nat} (hx:ev L x=some v) (hz:v.cells.size=sz):Ac P n B w0 (.box e x) ty L R (λu R'=> ∃g,u= .pointer (some ⟨g,0,none⟩)/\R'=⟨e,sz,some ⟨g,0,none⟩,1,1,v.cells.toList,false⟩::R):=by
 intro a w o K Q ho _ hs hp hk;have hh:=hp.new v.cells e 1 sz (by unfold maxLen;omega) G;unfold Oper.wp
 have hr:(Instr.box e v).run P w= .ok (.pointer (some ⟨w.heap.size,0,none⟩)) (w.alloc (.cells v.cells e)):=by
  simp[Instr.box,newVar,newRow]
 simp only[execOp,ho,hs.ev hx,jq,hr,jm,ng,Oper.upon];exact hk _ _ _ hh ⟨_,rfl,rfl⟩
def evp (L:Env):List (Nat × Operand)->Option (List (Nat × Value))
 |[]=>some []
 |(i,x)::r=>match ev L x,evp L r with
  |some v,some vs=>some ((i,v)::vs)
  |_,_=>none
theorem Sat.evp {a:Act} (hs:Sat n L a): ∀ {xs:List (Nat × Operand)} {vs:List (Nat × Value)},evp L xs=some vs->xs.map (λp=>(p.1,a.eval p.2))=vs
 |[],vs,h=>by simpa [Eng.evp] using h
 | (i,x)::r,vs,h=>by
  unfold Eng.evp at h;split at h
  ·rename_i v us h1 h2;obtain rfl:=je h;rw[ko,hs.ev h1,hs.evp h2]
  ·cases h
theorem qG {t e:TypeId} {z:Value} {sz len:Nat} {ps:List (Nat × Operand)} {vs:List (Nat × Value)} {cells:Array Value} (ht:P.underlying t=some (.slice e)) (dt:(P.info? e).map (λi=>(i.zero,i.size))=some (some z,sz)) (hv:evp L ps=some vs)
  (rm:Nat.ble (len*sz) 16777216=true) (hl:Nat.ble len 16777216=true)
  (l5:Instr.fill (λi=>some (i*sz,sz)) ((Array.range (len*sz)).map ((bif Nat.beq (len*sz) 0 then #[] else z.cells)[· %(bif Nat.beq (len*sz) 0 then #[] else z.cells).size]!)) vs=some cells) (hc:cells.size=len*sz):
  Ac P n B w0 (.buildSlice t len ps.toArray) ty L R (λv R'=> ∃g,v= .slice (some ⟨g,0,none⟩) len len/\R'=⟨e,sz,some ⟨g,0,none⟩,len,len,cells.toList,false⟩::R):=by
 intro a w o K Q ho _ hs hp hk;obtain⟨i0,hi,zd⟩:=iw.1 dt;simp only[Ad] at zd;obtain⟨vt,xb⟩:=zd;have Jz:=ak rm;have hlm:=ak hl;have Od:=hs.evp hv
 have hr:(Instr.buildSlice t len (ps.toArray.map λp=>(p.1,a.eval p.2))).run P w= .ok (.slice (some ⟨w.heap.size,0,none⟩) len len) (w.alloc (.cells cells e)):=by
  have hns: ¬(16777216<len*sz):=G
  by_cases h0:len*sz=0
  ·have e0: ∀f:Nat->Value,Array.map f (Array.range 0)= #[]:=λf=>by simp[Array.range_zero']
   rw[h0,e0] at l5;simp[Instr.buildSlice,mh ht,sizeOf,typeInfo,hi,xb,h0,Od,newRow,l5,e0]
  ·have hb:Nat.beq (len*sz) 0=false:=by
    cases hb:Nat.beq (len*sz) 0 with
    |true=>exact absurd (yf hb) h0
    |false=>rfl
   simp only[hb,cond_false] at l5;simp[Instr.buildSlice,mh ht,sizeOf,typeInfo,hi,xb,h0,zeroValue,vt,newRow,Od,l5,hns]
 unfold Oper.wp;simp only[execOp,ho,jq,hr,jm,ng,Oper.upon];exact hk _ _ _ (hp.new cells e len sz (by unfold maxLen;omega) hc) ⟨_,rfl,rfl⟩
theorem aQn (l vs:AG) (j k:Nat) (h1:j+vs.length<=k) (h2:k<=l.length):(l.take j++vs++l.drop (j+vs.length)).take k=(l.take k).take j++vs++(l.take k).drop (j+vs.length):=by
 apply ul;intro i;simp only[ou,List.getElem?_append,ah,ax,qz];have e1:min j l.length=j:=G
 have e2:min j (min k l.length)=j:=G
 rw[e1,e2];by_cases hi:i<k
 ·by_cases hj:i<j
  ·simp[hi,hj,show i<j+vs.length by omega]
  ·by_cases hv:i<j+vs.length
   ·simp[hi,hj,hv]
   ·have:j+vs.length+(i-(j+vs.length))=i:=G
    simp[hi,hv,this]
 ·have h4: ¬i<j+vs.length:=G
  have:j+vs.length+(i-(j+vs.length))=i:=G
  simp[hi,h4,this]
theorem Row.lies_seg {w:World} {r:Row} (h:r.lies B w) (nc:r.ro=false) {g:Nat} (hA:r.A=some ⟨g,0,none⟩) (j:Nat) (vs:AG) (hj:j+vs.length<=r.xs.length) (h1: ∀v∈vs,v.oneCell'=true) {t:TypeId} {v:Value} (hv:v.cells.toList=vs) (ge:(P.info? t).map (·.size)=some vs.length):
  ∃w',(storeVar t ((⟨g,0,none⟩:Addr).add j) v).run P w= .ok () w'/\w.grownBy w' (some g)/\Row.lies B w' {r with xs:=r.xs.take j++vs++r.xs.drop (j+vs.length)}:=by
 have hw:=Row.lies_w h nc;rcases hw.2 with⟨hn,_⟩|⟨g',cap,cur,hs,hb,hg,hnc,tc,ke,ht⟩
 ·rw[hA] at hn;cases hn
 ·rw [hA] at hs;simp only[ku,mr,Az,Aj,Ak] at hs;obtain⟨rfl,rfl⟩:=hs;have Ls:r.xs.length=r.n*r.sz:=hw.1;have ox:r.n*r.sz<=cur.size:=by rw[ke];exact ut _ hnc
  have Ku:(⟨g,0,none⟩:Addr).add j=⟨g,j,none⟩:=by unfold Addr.add;split<;>simp_all
  have hr:=run_storeCells_at P g j r.e vs 0 cur w hg cH h1;simp only[qp] at hr;obtain⟨i0,bb,hsz0⟩:=iw.1 ge;have hvl:v.cells.size=vs.length:=by rw[<-jy,hv]
  refine⟨w.setRow g (cur.toList.take j++vs++cur.toList.drop (j+vs.length)).toArray,?_,⟨rfl,rfl,rfl,cD,λk _ hk=>Je w g k _ (λe=>hk (by simp[e]))⟩,?_⟩
  ·rw [Ku];have cv: ¬(v.cells.size≠vs.length):=G
   simp only[storeVar,jq,sizeOf,typeInfo,program,Sem.run,jm,bb,ng,hsz0,cv,xx,hv];exact hr
  ·unfold Row.lies;simp only[nc];refine⟨?_, .inr ⟨g,r.c,_,by rw[hA],hb,Jy w g cur _ r.e _ hg,hnc,tc,?_,?_⟩⟩
   ·simp only[ah,ax,az];omega
   ·simp only[ql,ah,ax,az,jy];omega
   ·simp only;rw[aQn _ _ _ _ G (by rw[jy];omega),ht]
theorem PD {x y:Operand} {t:TypeId} {p:AF} {j:Nat} {r:Row} {v:Value} {vs:AG} {g:Nat} (i:Nat) (hi:R[i]? =some r) (nc:r.ro=false) (hA:r.A=some ⟨g,0,none⟩) (ge:(P.info? t).map (·.size)=some vs.length) (hx:ev L x=some (.pointer p)) (da:p=pat r.A j) (hy:ev L y=some v) (hv:v.cells.toList=vs) (h1: ∀v∈vs,v.oneCell'=true) (hj:j+vs.length<=r.xs.length):
  Ac P n B w0 (.store t x y) ty L R (λ_ R'=>R'=R.set i {r with xs:=r.xs.take j++vs++r.xs.drop (j+vs.length)}):=by
 intro a w o K Q ho _ hs hp hk;subst da;obtain⟨w',hr,hg,hl⟩:=Row.lies_seg (P:=P) (hp.own r (gu hi)) nc hA j vs hj h1 hv ge;unfold Oper.wp;simp only[execOp,ho,Instr.storeAt,hs.ev hx,hs.ev hy,pat,hA,kv,Instr.sureAddr,jq,ng,jm,hr,Oper.upon];refine hk undef w' _ ?_ rfl;refine hp.upd hi hg (LP _ _ _ _ hr) (λk hk=> ?_) hl (λa' np=> .inl ⟨a',np,rfl⟩);obtain rfl:=je hk;exact⟨_,hA,rfl⟩
theorem aYz (l:AG) (j:Nat) (v:Value) (h:j<l.length):l.take j++[v]++l.drop (j+1)=l.set j v:=by
 rw[Cx,di h];simp
theorem WU {x y:Operand} {t:TypeId} {p:AF} {j:Nat} {r:Row} {v:Value} {g:Nat} (i:Nat) (hi:R[i]? =some r) (nc:r.ro=false) (hA:r.A=some ⟨g,0,none⟩) (ge:(P.info? t).map (·.size)=some 1) (hx:ev L x=some (.pointer p)) (da:p=pat r.A j) (hy:ev L y=some v) (hv:v.cells.toList=[v]) (h1:v.oneCell'=true) (hj:j<r.xs.length):
  Ac P n B w0 (.store t x y) ty L R (λ_ R'=>R'=R.set i {r with xs:=r.xs.set j v}):=by
 have:=PD (P:=P) (n:=n) (B:=B) (w0:=w0) (ty:=ty) i hi nc hA (vs:=[v]) ge hx da hy hv (by simpa using h1) (by rw[ib];omega);simpa only[ib,aYz _ _ _ hj] using this
theorem fJ {s x:Operand} {t:TypeId} {z:Value} {bytes m c2:Nat} {A2:AF} {r:Row} {news:AG} (i:Nat) (hi:R[i]? =some r) (nc:r.ro=false) (ht:P.underlying t=some (.slice r.e)) (dt:(P.info? r.e).map (λi=>(i.zero,i.size,i.bytes))=some (some z,r.sz,bytes)) (hz:z.cells.size=r.sz) (hsz:Nat.blt 0 r.sz=true) (o7:Nat.blt 0 bytes=true)
  (hs:ev L s=some (.slice r.A r.n r.c)) (hx:ev L x=some (.slice A2 m c2)) (gr:RdC B w0 R A2 m c2 r.sz news) (h1: ∀u∈news,u.oneCell'=true) (kl:(r.n+m)*bytes<=140737488355328):
  Ac P n B w0 (.call {callee:= .builtin .append,args:= #[s,x],argTypes:= #[t,t]}) ty L R (λv R'=> ∃A' c',v= .slice A' (r.n+m) c'/\R'=R.set i ⟨r.e,r.sz,A',r.n+m,c',r.xs++news,false⟩):=by
 intro a w o K Q ho _ fj hp hk;obtain⟨i0,bb,zd⟩:=iw.1 dt;simp only[Ad] at zd;obtain⟨vt,xb,s7⟩:=zd;have Pd:=ak hsz;have Yb:=ak o7;have hr:=hp.own r (gu hi);have ij:=Row.lies_w hr nc;have g7:=gr w hp;have hlen:r.n+m<=140737488355328:=qy (Nat.le_mul_of_pos_right _ Yb) kl
 have oy: ∃v' w',(Builtin.append_ #[t,t] o.type #[.slice r.A r.n r.c, .slice A2 m c2]).run P w= .ok v' w'/\w'.ownsRow B r.e r.sz v' (r.n+m) (r.xs++news)/\w.grownBy w' (Value.ownBlock (.slice r.A r.n r.c))/\(v'.ownBlock=Value.ownBlock (.slice r.A r.n r.c)\/v'.ownBlock=some w.heap.size):=by
  rcases ek m with h0|h0
  ·subst h0;have hn:news=[]:=dw (by rw[g7.len];omega);subst hn;rcases A2 with _|ad
   ·refine ⟨_,w,?_,by simpa using ij,World.grownBy_refl' w _, .inl rfl⟩;rcases ij.2 with⟨hv,hn⟩|⟨g,cap,cur,hv,_,_,hnc,_⟩
    ·rw [hv];simp[Builtin.append_,mh ht,sizeOf,typeInfo,bb,Builtin.lenOf,Builtin.firstCells]
    ·rw [hv];simp[Builtin.append_,mh ht,sizeOf,typeInfo,bb,Builtin.lenOf,Builtin.firstCells,hnc,storeCells]
   ·obtain ⟨v',w',h2,h3,h4,_,h5⟩:=run_append_own_at (P:=P) w B t o.type r.e i0 z r.sz bytes ht bb vt xb s7 hz Pd _ r.n r.xs ij ad 0 c2 [] cD (λj u hu=>by simp at hu) h1 (by unfold maxLen;omega) kl hp.base;exact⟨v',w',h2,h3,h4,h5⟩
  ·have cv:0<news.length:=by rw[g7.len];exact Gv h0 Pd
   obtain⟨ad,rfl,_⟩:=g7.at_ 0 news[0] cD
   obtain⟨v',w',h2,h3,h4,_,h5⟩:=run_append_own_at (P:=P) w B t o.type r.e i0 z r.sz bytes ht bb vt xb s7 hz Pd _ r.n r.xs ij ad m c2 news g7.len (λj u hu=>by
    obtain⟨a',np,hc⟩:=g7.at_ j u hu;obtain rfl:=je np
    exact hc) h1 (by unfold maxLen;omega) kl hp.base
   exact⟨v',w',h2,h3,h4,h5⟩
 obtain⟨v',w',h2,h3,h4,h5⟩:=oy
 have Do: ∃A' c',v'= .slice A' (r.n+m) c':=by
  rcases h3.2 with⟨rfl,hn⟩|⟨g,cap,cur,rfl,_⟩
  ·exact⟨none,0,by rw[hn]⟩
  ·exact⟨_,cap,rfl⟩
 obtain⟨A',c',rfl⟩:=Do;unfold Oper.wp execOp;simp only[ho,resolve,invoke,builtin,jq,ng,jm,uf,ko,qx,fj.ev hs,fj.ev hx,h2,Oper.upon];refine hk _ w' _ ?_ ⟨A',c',rfl,rfl⟩;refine hp.upd hi h4 (LP _ _ _ _ h2) (λk hk=> ?_) ?_ (λa' np=> ?_)
 ·cases hA:r.A with
  |none=>rw[hA] at hk;simp[Value.ownBlock] at hk
  |some a1=>rw[hA] at hk;simp only[Value.ownBlock,mr] at hk;exact⟨a1,rfl,hk⟩
 ·exact h3
 ·have Kt:A'=some a':=np;subst Kt;rcases h5 with h5|h5
  ·cases hA:r.A with
   |none=>rw[hA] at h5;simp[Value.ownBlock] at h5
   |some a1=>rw[hA] at h5;simp only[Value.ownBlock,mr] at h5;exact .inl ⟨a1,rfl,h5.symm⟩
  ·simp only[Value.ownBlock,mr] at h5;exact .inr G
end
end Go.Eng
namespace Go.Eng
open Go Go.RowKit
def bO (P:Program) {α:Type} (m:Sem α):Prop:= ∀w w1 v,m.run P w= .ok v w1-> ∀w',m.run P w'= .ok v w'
def lM (P:Program) {α:Type} (m:Sem α):Prop:= ∀w w1 v,m.run P w≠ .ok v w1
section
variable {P:Program} {α β:Type}
theorem lM.free {m:Sem α} (h:lM P m):bO P m:=λw w1 v e=>absurd e (h w w1 v)
theorem bO.pure (a:α):bO P (Pure.pure a:Sem α):=λw w1 v h w'=>by
 simp only[ng,Cj] at h ⊢;exact⟨h.1,trivial⟩
theorem bO.bind {m:Sem α} {f:α->Sem β} (hm:bO P m) (hf: ∀a,bO P (f a)):bO P (m>>=f):=λw w1 v h w'=>by
 rw[jq] at h ⊢;cases hr:m.run P w with
 |halt x w2=>rw[hr] at h;cases h
 |ok a w2=>
  rw[hr] at h;rw[hm w w2 a hr w'];exact hf a w2 w1 v h w'
theorem lM.bind {m:Sem α} {f:α->Sem β} (hf: ∀a,lM P (f a)):lM P (m>>=f):=λw w1 v h=>by
 rw[jq] at h;cases hr:m.run P w with
 |halt x w2=>rw[hr] at h;cases h
 |ok a w2=>
  rw[hr] at h;exact hf a w2 w1 v h
theorem lM.left {m:Sem α} {f:α->Sem β} (hm:lM P m):lM P (m>>=f):=λw w1 v h=>by
 rw[jq] at h;cases hr:m.run P w with
 |halt x w2=>rw[hr] at h;cases h
 |ok a w2=>exact hm w w2 a hr
theorem dL (x:Halt):lM P (.halt x:Sem α):=λw w1 v h=>by cases h
theorem wT (e:RuntimeError):lM P (runtimePanic e:Sem α):=by
 unfold runtimePanic;refine lM.bind λp=> ?_;cases e with
 |typeAssertion i c a m=>exact lM.bind λ_=>lM.bind λ_=>dL _
 |panicNil=>exact lM.bind λ_=>lM.bind λ_=>dL _
 |_=>exact dL _
theorem xE (t:TypeId):bO P (underlying t):=by
 unfold underlying;refine bO.bind (λw w1 v h w'=> ?_) λp=> ?_
 ·simp only[program,Sem.run,Cj] at h ⊢;exact⟨h.1,trivial⟩
 ·split
  ·exact bO.pure _
  ·exact(dL _).free
theorem SX (t:TypeId):bO P (typeInfo t):=by
 unfold typeInfo;refine bO.bind (λw w1 v h w'=> ?_) λp=> ?_
 ·simp only[program,Sem.run,Cj] at h ⊢;exact⟨h.1,trivial⟩
 ·split
  ·exact bO.pure _
  ·exact(dL _).free
theorem qL (t:TypeId):bO P (sizeOf t):=bO.bind (SX t) λ_=>bO.pure _
theorem oO (x:Value) (y:Nat) (c:BoundsCode):bO P (Instr.sliceBound x y c):=by
 unfold Instr.sliceBound;refine bO.bind ?_ λp=> ?_
 ·unfold asIntOf;split
  ·exact bO.pure _
  ·exact(dL _).free
  ·exact(dL _).free
 ·obtain ⟨k,i⟩:=p;simp only;split
  ·exact bO.pure _
  ·unfold boundsPanic;dsimp only;split
   ·exact(lM.bind λ_=>wT _).free
   ·exact(lM.bind λ_=>wT _).free
theorem sG (b:Bool) (n c:Nat) (lo hi mx:Option Value):bO P (Instr.sliceBounds b n c lo hi mx):=by
 unfold Instr.sliceBounds;cases mx with
 | none=>
  refine bO.bind (bO.pure _) λm=> ?_;cases hi with
  |none=>
   refine bO.bind (bO.pure _) λh=> ?_;cases lo with
   |none=>exact bO.bind (bO.pure _) λl=>bO.pure _
   |some v=>exact bO.bind (oO _ _ _) λl=>bO.pure _
  |some u=>
   refine bO.bind (oO _ _ _) λh=> ?_;cases lo with
   |none=>exact bO.bind (bO.pure _) λl=>bO.pure _
   |some v=>exact bO.bind (oO _ _ _) λl=>bO.pure _
 | some x=>
  refine bO.bind (oO _ _ _) λm=> ?_;cases hi with
  |none=>exact(lM.left (dL _)).free
  |some u=>
   refine bO.bind (oO _ _ _) λh=> ?_;cases lo with
   |none=>exact bO.bind (bO.pure _) λl=>bO.pure _
   |some v=>exact bO.bind (oO _ _ _) λl=>bO.pure _
theorem aNm (x:Value):bO P (asAddr x):=by
 unfold asAddr;split
 ·exact bO.pure _
 ·exact(wT _).free
 ·exact(dL _).free
theorem aFk (t:TypeId) (x:Value) (lo hi mx:Option Value):bO P (Instr.slice t x lo hi mx):=by
 unfold Instr.slice;refine bO.bind (xE t) λd=> ?_;split
 ·split
  ·exact(lM.left (dL _)).free
  ·exact bO.bind (sG _ _ _ _ _ _) λ_=>bO.pure _
 ·exact bO.bind (sG _ _ _ _ _ _) λ_=>bO.bind (qL _) λ_=>bO.pure _
 ·refine bO.bind (aNm _) λ_=>bO.bind (xE _) λ_=> ?_;split
  ·exact bO.bind (sG _ _ _ _ _ _) λ_=>bO.bind (qL _) λ_=>bO.pure _
  ·exact(dL _).free
 ·exact(dL _).free
theorem aNk (x:Value):bO P (Instr.sureAddr x):=by
 unfold Instr.sureAddr;split
 ·exact bO.pure _
 ·exact(dL _).free
theorem VY (t:TypeId) (x:Value) (lo hi mx:Option Value):bO P (Instr.sliceAt t x lo hi mx):=by
 unfold Instr.sliceAt;refine bO.bind (xE t) λd=> ?_;split
 ·exact bO.bind (aNk _) λ_=>bO.bind (sG _ _ _ _ _ _) λ_=>bO.bind (qL _) λ_=>bO.pure _
 ·exact aFk _ _ _ _ _
end
def bIa (P:Program) {α:Type} (m:Sem α):Prop:= ∀w v,m.run P w= .ok v w-> ∀w',m.run P w'= .ok v w'
def jA (P:Program) {α:Type} (m:Sem α):Prop:= ∀w v,m.run P w≠ .ok v w
section
variable {P:Program} {α β:Type}
theorem bO.stay {m:Sem α} (h:bO P m):bIa P m:=λw v e=>h w w v e
theorem jA.stay {m:Sem α} (h:jA P m):bIa P m:=λw v e=>absurd e (h w v)
theorem lM.noSame {m:Sem α} (h:lM P m):jA P m:=λw v e=>h w w v e
theorem jA.bind {m:Sem α} {f:α->Sem β} (hm:bO P m) (hf: ∀a,jA P (f a)):jA P (m>>=f):=λw v h=>by
 rw[jq] at h;cases hr:m.run P w with
 |halt x w2=>rw[hr] at h;cases h
 |ok a w2=>
  have h2:=hm w w2 a hr w;rw[hr] at h2;cases h2;rw[hr] at h;exact hf a w v h
theorem jA.left {m:Sem α} {f:α->β} (hm:jA P m):jA P (m>>=λa=>(Pure.pure (f a):Sem β)):=λw v h=>by
 rw[jq] at h;cases hr:m.run P w with
 |halt x w2=>rw[hr] at h;cases h
 |ok a w2=>
  rw[hr] at h;simp only[Result.andThen,ng,Cj] at h;rw[h.2] at hr;exact hm w a hr
theorem SV (t:TypeId):bO P (zeroValue t):=by
 unfold zeroValue;refine bO.bind (SX t) λi=> ?_;split
 ·exact bO.pure _
 ·exact(dL _).free
theorem sO (e:TypeId) (cs:Array Value):jA P (newRow e cs):=λw v h=>by
 simp[newRow,newObj,Sem.run,Result.andThen] at h;have:=bu (λw:World=>w.heap.size) h.2;unfold World.alloc at this;simp only[Array.size_push] at this;omega
theorem NR (f:α->Sem β) (hf: ∀a,bO P (f a)): ∀l:List α,bO P (l.mapM f)
 |[]=>by rw[List.mapM_nil];exact bO.pure _
 |a::l=>by
  rw[List.mapM_cons];exact bO.bind (hf a) λ_=>bO.bind (NR f hf l) λ_=>bO.pure _
theorem aNl (f:α->Sem β) (hf: ∀a,bO P (f a)) (l:Array α):bO P (l.mapM f):=by
 rw[Array.mapM_eq_mapM_toList,<-bind_pure_comp];exact bO.bind (NR f hf _) λ_=>bO.pure _
theorem aFl (t:TypeId) (ps:Array (Nat × Value)):bO P (Instr.build t ps):=by
 unfold Instr.build;refine bO.bind (SV t) λz=> ?_;refine bO.bind (xE t) λd=> ?_;split
 ·refine bO.bind (aNl _ (λ_=>bO.bind (qL _) λ_=>bO.pure _) _) λ_=> ?_;split
  ·exact bO.pure _
  ·exact(dL _).free
 ·refine bO.bind (qL _) λ_=> ?_;split
  ·exact bO.pure _
  ·exact(dL _).free
 ·exact(dL _).free
theorem CZ (t:TypeId) (n:Nat) (ps:Array (Nat × Value)):jA P (Instr.buildSlice t n ps):=by
 unfold Instr.buildSlice;refine jA.bind (xE t) λd=> ?_;split
 ·refine jA.bind (qL _) λs=> ?_;dsimp only;split
  ·exact(lM.left (dL _)).noSame
  ·split
   ·refine jA.bind (bO.pure _) λz=> ?_;split
    ·exact jA.left (sO _ _)
    ·exact(dL _).noSame
   ·refine jA.bind (SV _) λz=> ?_;refine jA.bind (bO.pure _) λz=> ?_;split
    ·exact jA.left (sO _ _)
    ·exact(dL _).noSame
 ·exact(dL _).noSame
theorem aEq (t:TypeId) (v:Value):jA P (Instr.box t v):=jA.left (sO _ _)
end
def aUr:Op->Bool
 | .move _=>true
 | .slice .. =>true
 | .build .. =>true
 | .buildSlice .. =>true
 | .box .. =>true
 | .extract .. =>true
 |_=>false
theorem VZ {P:Program} (v:Value) (i:Nat):bO P (Instr.extract v i):=by
 unfold Instr.extract
 repeat' first
  |exact bO.pure _
  |exact(dL _).free
  |split
theorem bBr {P:Program} {o:Oper} (h:aUr o.op=true) (ρ:Operand->Value):bIa P (execOp ρ o):=by
 unfold execOp;cases ho:o.op<;>(try (rw[ho] at h;cases h))
 all_goals first
  |exact(bO.pure _).stay
  |exact(jA.left (aEq _ _)).stay
  |exact(bO.bind (aFl _ _) λ_=>bO.pure _).stay
  |exact(jA.left (CZ _ _ _)).stay
  |exact(bO.bind (VY _ _ _ _ _) λ_=>bO.pure _).stay
  |exact(bO.bind (VZ _ _) λ_=>bO.pure _).stay
section
variable {P:Program} {ops:Array Oper} {Q:Exit->Act->World->Prop}
def anc (ops:Array Oper):Nat->Nat->Nat->Bool
 |0,_,_=>false
 |f+1,j,k=>((ops[j]?).map (·.after.any λe=>Region.binds .any e && (Nat.beq e.on k||anc ops f e.on k))).getD false
def OW (ops:Array Oper) (ab:AI) (i:Nat):Bool:=
 (List.range ops.size).all λk=> !ab.getD k false||anc ops ops.size i k||((ops[k]?).map (aUr ·.op)).getD false
def vE (ops:Array Oper) (ab:AI):Bool:=
 (List.range ops.size).all λk=> !ab.getD k false||((ops[k]?).map (·.after.all λe=> !Region.binds .any e||ab.getD e.on false)).getD false
theorem EG {ab:AI} (h:vE ops ab=true) {k:Nat} {o:Oper} (hk:ops[k]? =some o) (hl:ab.getD k false=true): ∀e∈o.after,Region.binds .any e=true->ab.getD e.on false=true:=by
 intro e he hb;have bp:k<ops.size:=(gp.1 hk).1;have:=xc.1 h k (jw.2 bp);rw[hl,hk] at this;simp only[Eb,Hq,kv,oz] at this;obtain⟨q,hq,rfl⟩:=Array.mem_iff_getElem.1 he;have h2:=Gn.1 this q hq;rw[hb] at h2;simpa using h2
theorem OZ {ab:AI} (hc:vE ops ab=true): ∀(f j k:Nat) (oj:Oper),ops[j]? =some oj->(∀e∈oj.after,Region.binds .any e=true->ab.getD e.on false=true)->anc ops f j k=true->ab.getD k false=true
 |0,_,_,_,_,_,h=>by cases h
 | f+1,j,k,oj,Lh,ka,h=>by
  unfold anc at h;rw[Lh] at h;simp only[kv,oz,Array.any_eq_true] at h;obtain⟨q,hq,h⟩:=h;have he:oj.after[q]∈oj.after:=Gp hq;simp only[qi,Ar] at h;have hl:=ka _ he h.1;rcases h.2 with h2|h2
  ·rw[<-yf h2];exact hl
  ·cases ho:ops[oj.after[q].on]? with
   |none=>
    exfalso;cases f with
    |zero=>cases h2
    |succ f=>unfold anc at h2;rw[ho] at h2;simp at h2
   |some om=>exact OZ hc f _ k om ho (EG hc ho hl) h2
theorem aBt {ab:AI} (hc:vE ops ab=true) {j:Nat} {oj:Oper} (Lh:ops[j]? =some oj) (ka: ∀e∈oj.after,Region.binds .any e=true->ab.getD e.on false=true):vE ops (ab.setIfInBounds j true)=true:=by
 have up: ∀k,ab.getD k false=true->(ab.setIfInBounds j true).getD k false=true:=by
  intro k hk;by_cases e:j=k
  ·subst e
   have bp:j<ab.size:=by
    rcases gm j ab.size with h|h
    ·exact h
    ·simp[Cy h] at hk
   simp[bp]
  ·simp only[yx,Ap,e,xx] at hk ⊢;exact hk
 unfold vE;refine xc.2 λk hk=> ?_;by_cases Py:k=j
 ·subst Py;rw[Lh];simp only[kv,oz]
  have:(oj.after.all λe=> !Region.binds .any e||(ab.setIfInBounds k true).getD e.on false)=true:=by
   refine Gn.2 λq hq=> ?_;cases hb:Region.binds .any oj.after[q] with
   |false=>rfl
   |true=>simp only[Eb,Hq];exact up _ (ka _ (Gp hq) hb)
  rw[this,Bool.or_true]
 ·cases hl:ab.getD k false with
  | false=>
   have:(ab.setIfInBounds j true).getD k false=false:=by
    simp only[yx,Ap,Gw Py,xx] at hl ⊢;exact hl
   rw[this];rfl
  | true=>
   cases ho:ops[k]? with
   |none=>
    have h0:=jw.1 hk;rw[Array.getElem?_eq_none_iff] at ho;omega
   | some ok=>
    have h1:=EG hc ho hl
    have:(ok.after.all λe=> !Region.binds .any e||(ab.setIfInBounds j true).getD e.on false)=true:=by
     refine Gn.2 λq hq=> ?_;cases hb:Region.binds .any ok.after[q] with
     |false=>rfl
     |true=>simp only[Eb,Hq];exact up _ (h1 _ (Gp hq) hb)
    simp only[kv,oz,this,Bool.or_true]
def vQ (P:Program) (ops:Array Oper) (Q:Exit->Act->World->Prop):Nat->(World->Prop)->AI->Act->World->Prop
 |0,_,ab,a,w=>Region.ready .any ops ab=[]/\Q .normal a w
 |bm+1,S,ab,a,w=>(Region.ready .any ops ab=[]->Q .normal a w)/\
  ∀i∈Region.ready .any ops ab,wpOp P ops Q i (λa' w'=> ∃S':World->Prop,S' w'/\(OW ops ab i=true\/ ∀x,S' x->S x)/\vQ P ops Q bm S' (ab.setIfInBounds i true) a' w') a w
theorem zJ: ∀(bm:Nat) (S:World->Prop) (ab:AI) (a:Act) (w:World),vQ P ops Q bm S ab a w->wpAny P .any ops Q bm ab a w
 |0,_,_,_,_,h=>h
 |bm+1,_,_,_,_,h=>⟨h.1,λi hi=>wpOp_mono (λa' w' ⟨S',_,_,h'⟩=>zJ bm S' _ a' w' h') (h.2 i hi)⟩
theorem YieldsIf.shrink {S S':World->Prop} {o:Oper} {v:Value} {a:Act} (h:YieldsIf P ops S o v a) (hs: ∀x,S' x->S x):YieldsIf P ops S' o v a:=
 h.imp (λ⟨hw,hv⟩=>⟨hw,λw Mx=>hv w (hs w Mx)⟩) id
theorem BB {i:Nat} {oi:Oper} {v:Value} (hi:ops[i]? =some oi) (Uh: ∀(j:Nat) (o:Oper) cs b,ops[j]? =some o->o.op≠ .select cs b)
  (hQ: ∀c a w,Q (.panic c) (a.put oi.dst v) w->Q (.panic c) a w):
  ∀(bm:Nat) (S:World->Prop) (ab:AI) (a:Act) (w:World),
   vE ops ab=true->(∀j oj,ops[j]? =some oj->j≠i->ab.getD j true=false->(∀e∈oj.after,Region.binds .any e=true->e.on≠i)->oi.apart ops oj=true)->
   i∈Region.ready .any ops ab->YieldsIf P ops S oi v a->S w->
   vQ P ops Q bm S (ab.setIfInBounds i true) (a.put oi.dst v) w->vQ P ops Q (bm+1) S ab a w:=by
 intro bm
 induction bm with
 | zero=>
  intro S ab a w _ _ hr hy hS H;refine⟨λh=>(by rw[h] at hr;cases hr),λj hj=> ?_⟩;by_cases r9:j=i
  ·subst r9;exact hy.wpOp hi hS ⟨S,hS, .inr λ_ h=>h,H⟩
  ·have:=ready_mono hj r9;rw[H.1] at this;cases this
 | succ bm ih=>
  intro S ab a w kt Mg hr hy hS H;refine⟨λh=>(by rw[h] at hr;cases hr),λj hj=> ?_⟩;by_cases r9:j=i
  ·subst r9;exact hy.wpOp hi hS ⟨S,hS, .inr λ_ h=>h,H⟩
  ·have h1:=H.2 j (ready_mono hj r9);obtain⟨Td,oj,Lh,ka⟩:=mem_ready.1 hj
   have yb:i<ab.size:=by
    have h0:=(mem_ready.1 hr).1;rcases gm i ab.size with h'|h'
    ·exact h'
    ·simp[Cy h'] at h0
   have Lg: ∀e∈oj.after,Region.binds .any e=true->e.on≠i:=λe he hb r8=>by
    have h1:=ka e he hb;have h0:=(mem_ready.1 hr).1;rw[r8] at h1;simp[yb] at h0 h1;rw[h0] at h1;cases h1
   have h2:=wpOp_putIf Lh (Mg j oj Lh r9 Td Lg) (λcs b=>Uh i oi cs b hi) (λcs b=>Uh j oj cs b Lh) hQ hy h1
   have Of: ∀k ok,ops[k]? =some ok->k≠i->(ab.setIfInBounds j true).getD k true=false->
     (∀e∈ok.after,Region.binds .any e=true->e.on≠i)->oi.apart ops ok=true:=λk ok hk Vx Hn yp=>by
    refine Mg k ok hk Vx ?_ yp;by_cases hjk:j=k
    ·subst hjk;exact Td
    ·rw[getD_set_ne true hjk] at Hn;exact Hn
   refine wpOp_mono (λa' w' ⟨hy',S',hS',vi,hB⟩=> ?_) h2
   have Hn:ab.getD i false=false:=by
    have h0:=(mem_ready.1 hr).1;simp[yb] at h0 ⊢;exact h0
   have Mf:(OW ops ab j=true\/ ∀x,S' x->S x)/\YieldsIf P ops S' oi v a':=by
    rcases vi with hb|hs
    ·have hio:i<ops.size:=(gp.1 hi).1;have sv:=xc.1 hb i (jw.2 hio);have e1:(ab.setIfInBounds i true).getD i false=true:=by simp[yb]
     rw[e1,hi] at sv;simp only[Eb,Hq,kv,oz,Ar] at sv;rcases sv with ha|hm
     ·have:=OZ kt _ j i oj Lh ka ha;rw[Hn] at this;cases this
     ·refine ⟨.inl ?_,?_⟩
      ·refine xc.2 λk hk=> ?_;have h3:=xc.1 hb k hk;by_cases e:i=k
       ·subst e;rw[Hn];rfl
       ·simp only[yx,Ap,e,xx] at h3 ⊢;exact h3
      ·exact hy'.imp (λ⟨hw,hv⟩=>⟨hw,λPn _=>bBr hm _ _ _ (hv w hS) Pn⟩) id
    ·exact⟨.inr hs,YieldsIf.shrink hy' hs⟩
   refine⟨S',hS',Mf.1,ih S' (ab.setIfInBounds j true) a' w' (aBt kt Lh ka) Of (ready_mono hr (Gw r9)) Mf.2 hS' ?_⟩;rw[Array.setIfInBounds_comm _ _ r9];exact hB
end
section
variable {P:Program} {n:Nd} {B:Nat} {w0:World} {ops:Array Oper} {K:Env->List Row->Prop} {L:Env} {R:List Row} {op:Op} {ty:TypeId} {pos:String} {ob:Array Edge}
def WD (P:Program) (n:Nd) (B:Nat) (w0:World) (ops:Array Oper) (K:Env->List Row->Prop) (bm:Nat) (ab:AI) (L:Env) (R:List Row):Prop:=
 ∀a w (Q:Exit->Act->World->Prop),Sat n L a->Hp B w0 w R->(∀c a w,¬Q (.panic c) a w)->(∀a' w' L' R',Sat n L' a'->Hp B w0 w' R'->K L' R'->Q .normal a' w')->vQ P ops Q bm (λw=>Hp B w0 w R) ab a w
theorem bF {id:Nat} {l:List Oper} {Q:fK} (hm:P.follows .mixedOrders=true) (h:WD P n B w0 l.toArray Q.nrm l.toArray.size (Array.replicate l.toArray.size false) L R) (hd:DD n.rd l=true:=by exact rfl):W P n B w0 (.region id l.toArray true) Q L R:=by
 intro a w hs hp;refine wpIn_region_any hm (aCg aHc hd _ _ _ _<|zJ _ _ _ _ _ (h a _ _ hs (hp.drawn _ (Gu _)) (λ_ _ _ h=>h) λ_ _ L' R' fj da hk=>⟨L',R',fj,da,hk⟩))
def chk (ops:Array Oper) (ab:AI) (i:Nat):Bool:=Region.noSelect ops && Region.free .any ops ab i && (Region.ready .any ops ab).contains i && vE ops ab
theorem JH {i:Nat} {d:Nat} {v:Value} {o:Oper} {bm:Nat} {ab:AI} (hi:ops[i]? =some o) (hd:o.dst=some d) (hc:chk ops ab i=true) (hn:Nat.blt d n=true)
  (hy: ∀a,Sat n L a->YieldsIf P ops (λw=>Hp B w0 w R) o v a) (h:WD P n B w0 ops K bm (ab.setIfInBounds i true) ((d,v)::L) R):WD P n B w0 ops K (bm+1) ab L R:=by
 intro a w Q hs hp km hq;simp only[chk,qi] at hc;obtain⟨⟨⟨h1,h2⟩,h3⟩,h4⟩:=hc;refine BB hi (Region.noSelect_spec h1) (λc a w hh=>(km c _ w hh).elim) bm _ ab a w h4 (Region.free_spec hi h2) (by simpa using h3) (hy a hs) hp ?_;rw[hd];exact h _ w Q (hs.put hn v) hp km hq
theorem bNn {d:Nat} {v:Value} {bm:Nat} {ab:AI} (i:Nat) (hi:ops[i]? =some {dst:=some d,op:=op,type:=ty,pos:=pos,after:=ob,guard:=none}) (hc:chk ops ab i=true) (hn:Nat.blt d n=true)
  (hy:Yl P n B w0 op ty L R v) (h:WD P n B w0 ops K bm (ab.setIfInBounds i true) ((d,v)::L) R):WD P n B w0 ops K (bm+1) ab L R:=
 JH hi rfl hc hn (λa hs=> .inl ⟨rfl,λw hw=>hy a w _ rfl rfl hs hw⟩) h
theorem bIu {d j e:Nat} {want:Bool} {v:Value} {bm:Nat} {ab:AI} (i:Nat) (hi:ops[i]? =some {dst:=some d,op:=op,type:=ty,pos:=pos,after:=ob,guard:=some (j,want)}) (hc:chk ops ab i=true) (hn:Nat.blt d n=true)
  (hj:(ops[j]?).bind (·.dst)=some e) (hb:lk L e=some (.bool want)) (hy:Yl P n B w0 op ty L R v) (h:WD P n B w0 ops K bm (ab.setIfInBounds i true) ((d,v)::L) R):WD P n B w0 ops K (bm+1) ab L R:=
 JH hi rfl hc hn (λa hs=> .inl ⟨by simp[Region.wanted,qO hs hj hb],λw hw=>hy a w _ rfl rfl hs hw⟩) h
theorem bIv {d j e:Nat} {want b:Bool} {bm:Nat} {ab:AI} (i:Nat) (hi:ops[i]? =some {dst:=some d,op:=op,type:=ty,pos:=pos,after:=ob,guard:=some (j,want)}) (hc:chk ops ab i=true) (hn:Nat.blt d n=true)
  (hj:(ops[j]?).bind (·.dst)=some e) (hb:lk L e=some (.bool b)) (cv:(b==want)=false) (h:WD P n B w0 ops K bm (ab.setIfInBounds i true) ((d,undef)::L) R):WD P n B w0 ops K (bm+1) ab L R:=
 JH hi rfl hc hn (λa hs=> .inr ⟨by simp only[Region.wanted,qO hs hj hb];cases b<;>cases want<;>simp_all,rfl⟩) h
theorem KJ {d j e:Nat} {want:Bool} {bm:Nat} {ab:AI} (i:Nat) (hi:ops[i]? =some {dst:=some d,op:=op,type:=ty,pos:=pos,after:=ob,guard:=some (j,want)}) (hc:chk ops ab i=true) (hn:Nat.blt d n=true)
  (hj:(ops[j]?).bind (·.dst)=some e) (hb:lk L e=some undef) (h:WD P n B w0 ops K bm (ab.setIfInBounds i true) ((d,undef)::L) R):WD P n B w0 ops K (bm+1) ab L R:=
 JH hi rfl hc hn (λa hs=> .inr ⟨by simp[Region.wanted,zA hs hj hb],rfl⟩) h
theorem bFj {bm:Nat} {ab:AI} (hr:Region.ready .any ops ab=[]) (h:K L R):WD P n B w0 ops K bm ab L R:=by
 intro a w Q hs hp km hq;cases bm with
 |zero=>exact⟨hr,hq _ _ L R hs hp h⟩
 |succ bm=>exact⟨λ_=>hq _ _ L R hs hp h,by rw[hr];simp⟩
theorem aCu {i:Nat} {o:Oper} {Post:Value->List Row->Prop} {bm:Nat} {ab:AI} (hi:ops[i]? =some o) (hr:Region.ready .any ops ab=[i]) (hg: ∀a,Sat n L a->Region.wanted o (yielded ops a.tmps)=true) (ha:Ac P n B w0 o.op o.type L R Post)
  (hn: ∀v a,Sat n L a->Sat n (match o.dst with|some d=>(d,v)::L|none=>L) (a.put o.dst v))
  (h: ∀v R',Post v R'->(OW ops ab i=true\/ ∀w,Hp B w0 w R'->Hp B w0 w R)/\WD P n B w0 ops K bm (ab.setIfInBounds i true) (match o.dst with|some d=>(d,v)::L|none=>L) R'):WD P n B w0 ops K (bm+1) ab L R:=by
 intro a w Q hs hp km hq;refine⟨λh0=>absurd (hr▸h0) cD,λj hj=> ?_⟩;rw[hr] at hj;obtain rfl:=ic.1 hj;unfold wpOp;simp only[hi,hg a hs,Jd];refine .inl (ha a w o _ Q rfl rfl hs hp λv w' R' da hv=> ?_);obtain⟨h1,h2⟩:=h v R' hv;exact⟨λw=>Hp B w0 w R',da,h1,h2 _ w' Q (hn v a hs) da km hq⟩
theorem bNp {d:Nat} {Post:Value->List Row->Prop} {bm:Nat} {ab:AI} (i:Nat) (hi:ops[i]? =some {dst:=some d,op:=op,type:=ty,pos:=pos,after:=ob,guard:=none}) (hr:Region.ready .any ops ab=[i]) (hn:Nat.blt d n=true) (ha:Ac P n B w0 op ty L R Post)
  (h: ∀v R',Post v R'->(OW ops ab i=true\/ ∀w,Hp B w0 w R'->Hp B w0 w R)/\WD P n B w0 ops K bm (ab.setIfInBounds i true) ((d,v)::L) R'):WD P n B w0 ops K (bm+1) ab L R:=
 aCu hi hr (λ_ _=>rfl) ha (λv _ hs=>hs.put hn v) h
theorem rU {d j e:Nat} {want:Bool} {Post:Value->List Row->Prop} {bm:Nat} {ab:AI} (i:Nat) (hi:ops[i]? =some {dst:=some d,op:=op,type:=ty,pos:=pos,after:=ob,guard:=some (j,want)}) (hr:Region.ready .any ops ab=[i]) (hn:Nat.blt d n=true)
  (hj:(ops[j]?).bind (·.dst)=some e) (hb:lk L e=some (.bool want)) (ha:Ac P n B w0 op ty L R Post)
  (h: ∀v R',Post v R'->(OW ops ab i=true\/ ∀w,Hp B w0 w R'->Hp B w0 w R)/\WD P n B w0 ops K bm (ab.setIfInBounds i true) ((d,v)::L) R'):WD P n B w0 ops K (bm+1) ab L R:=
 aCu hi hr (λa hs=>by simp[Region.wanted,qO hs hj hb]) ha (λv _ hs=>hs.put hn v) h
theorem qD {Post:Value->List Row->Prop} {bm:Nat} {ab:AI} (i:Nat) (hi:ops[i]? =some {dst:=none,op:=op,type:=ty,pos:=pos,after:=ob,guard:=none}) (hr:Region.ready .any ops ab=[i]) (ha:Ac P n B w0 op ty L R Post)
  (h: ∀v R',Post v R'->(OW ops ab i=true\/ ∀w,Hp B w0 w R'->Hp B w0 w R)/\WD P n B w0 ops K bm (ab.setIfInBounds i true) L R'):WD P n B w0 ops K (bm+1) ab L R:=
 aCu hi hr (λ_ _=>rfl) ha (λ_ _ hs=>hs) h
theorem oZ {bm:Nat} {ab:AI} (d:Nat) {p:Prop} [Decidable p] (hb:lk L d=some (.bool (decide p))) (ht:p->WD P n B w0 ops K bm ab ((d, .bool true)::L) R) (hf: ¬p->WD P n B w0 ops K bm ab ((d, .bool false)::L) R):WD P n B w0 ops K bm ab L R:=by
 intro a w Q hs hp hq;by_cases h:p
 ·exact ht h a w Q (hs.sub (qJ (by rw[hb,ni h]))) hp hq
 ·exact hf h a w Q (hs.sub (qJ (by rw[hb,qa h]))) hp hq
theorem fO {bm:Nat} {ab:AI} {d:Nat} {u v:Value} (hu:u=v) (h:WD P n B w0 ops K bm ab ((d,v)::L) R):WD P n B w0 ops K bm ab ((d,u)::L) R:=by
 subst hu;exact h
theorem qC {bm:Nat} {ab:AI} {R1:List Row} (hR:R=R1) (h:WD P n B w0 ops K bm ab L R1):WD P n B w0 ops K bm ab L R:=by
 subst hR;exact h
end
end Go.Eng
namespace Go.Eng
open Go Go.RowKit
section
variable {P:Program} {n:Nd} {B:Nat} {w0:World}
theorem gZ {σ0:Type} {c:Code} {Q:fK} {L:Env} {R:List Row} (Lx:σ0->Env) (Rx:σ0->List Row) (J:σ0->Prop) (μ:σ0->Nat)
  (h0: ∃x0,J x0/\Sub (Lx x0) L/\ ∀w,Hp B w0 w R->Hp B w0 w (Rx x0))
  (round: ∀x0,J x0->W P n B w0 c {Q with nrm:=λL' R'=> ∃y0,J y0/\μ y0<μ x0/\Sub (Lx y0) L'/\ ∀w,Hp B w0 w R'->Hp B w0 w (Rx y0)} (Lx x0) (Rx x0)):W P n B w0 (.loop c) Q L R:=by
 obtain⟨x0,h1,h2,h3⟩:=h0;refine qQ (σ:=σ0) (λp=>Lx p) (λp=>Rx p) (λp=>J p) (λp=>μ p) ⟨x0,h1,h2,h3⟩ λp hp=>iV (round p hp) ?_ (λ_ _ h=>h) (λ_ _ _ h=>h);rintro L' R' ⟨y0,g1,g2,g3,g4⟩;exact⟨y0,⟨g1,g2⟩,g3,g4⟩
theorem dI {σ0 σ1:Type} {c:Code} {Q:fK} {L:Env} {R:List Row} (Lx:σ0->σ1->Env) (Rx:σ0->σ1->List Row) (J:σ0->σ1->Prop) (μ:σ0->σ1->Nat)
  (h0: ∃x0 x1,J x0 x1/\Sub (Lx x0 x1) L/\ ∀w,Hp B w0 w R->Hp B w0 w (Rx x0 x1))
  (round: ∀x0 x1,J x0 x1->W P n B w0 c {Q with nrm:=λL' R'=> ∃y0 y1,J y0 y1/\μ y0 y1<μ x0 x1/\Sub (Lx y0 y1) L'/\ ∀w,Hp B w0 w R'->Hp B w0 w (Rx y0 y1)} (Lx x0 x1) (Rx x0 x1)):W P n B w0 (.loop c) Q L R:=by
 obtain⟨x0,x1,h1,h2,h3⟩:=h0;refine qQ (σ:=σ0 × σ1) (λp=>Lx p.1 p.2) (λp=>Rx p.1 p.2) (λp=>J p.1 p.2) (λp=>μ p.1 p.2) ⟨(x0,x1),h1,h2,h3⟩ λp hp=>iV (round p.1 p.2 hp) ?_ (λ_ _ h=>h) (λ_ _ _ h=>h);rintro L' R' ⟨y0,y1,g1,g2,g3,g4⟩;exact⟨(y0,y1),⟨g1,g2⟩,g3,g4⟩
theorem gN {σ0 σ1 σ2:Type} {c:Code} {Q:fK} {L:Env} {R:List Row} (Lx:σ0->σ1->σ2->Env) (Rx:σ0->σ1->σ2->List Row) (J:σ0->σ1->σ2->Prop) (μ:σ0->σ1->σ2->Nat)
  (h0: ∃x0 x1 x2,J x0 x1 x2/\Sub (Lx x0 x1 x2) L/\ ∀w,Hp B w0 w R->Hp B w0 w (Rx x0 x1 x2))
  (round: ∀x0 x1 x2,J x0 x1 x2->W P n B w0 c {Q with nrm:=λL' R'=> ∃y0 y1 y2,J y0 y1 y2/\μ y0 y1 y2<μ x0 x1 x2/\Sub (Lx y0 y1 y2) L'/\ ∀w,Hp B w0 w R'->Hp B w0 w (Rx y0 y1 y2)} (Lx x0 x1 x2) (Rx x0 x1 x2)):W P n B w0 (.loop c) Q L R:=by
 obtain⟨x0,x1,x2,h1,h2,h3⟩:=h0;refine qQ (σ:=σ0 × σ1 × σ2) (λp=>Lx p.1 p.2.1 p.2.2) (λp=>Rx p.1 p.2.1 p.2.2) (λp=>J p.1 p.2.1 p.2.2) (λp=>μ p.1 p.2.1 p.2.2) ⟨(x0,x1,x2),h1,h2,h3⟩ λp hp=>iV (round p.1 p.2.1 p.2.2 hp) ?_ (λ_ _ h=>h) (λ_ _ _ h=>h);rintro L' R' ⟨y0,y1,y2,g1,g2,g3,g4⟩;exact⟨(y0,y1,y2),⟨g1,g2⟩,g3,g4⟩
theorem JJ {σ0 σ1 σ2 σ3:Type} {c:Code} {Q:fK} {L:Env} {R:List Row} (Lx:σ0->σ1->σ2->σ3->Env) (Rx:σ0->σ1->σ2->σ3->List Row) (J:σ0->σ1->σ2->σ3->Prop) (μ:σ0->σ1->σ2->σ3->Nat)
  (h0: ∃x0 x1 x2 x3,J x0 x1 x2 x3/\Sub (Lx x0 x1 x2 x3) L/\ ∀w,Hp B w0 w R->Hp B w0 w (Rx x0 x1 x2 x3))
  (round: ∀x0 x1 x2 x3,J x0 x1 x2 x3->W P n B w0 c {Q with nrm:=λL' R'=> ∃y0 y1 y2 y3,J y0 y1 y2 y3/\μ y0 y1 y2 y3<μ x0 x1 x2 x3/\Sub (Lx y0 y1 y2 y3) L'/\ ∀w,Hp B w0 w R'->Hp B w0 w (Rx y0 y1 y2 y3)} (Lx x0 x1 x2 x3) (Rx x0 x1 x2 x3)):W P n B w0 (.loop c) Q L R:=by
 obtain⟨x0,x1,x2,x3,h1,h2,h3⟩:=h0;refine qQ (σ:=σ0 × σ1 × σ2 × σ3) (λp=>Lx p.1 p.2.1 p.2.2.1 p.2.2.2) (λp=>Rx p.1 p.2.1 p.2.2.1 p.2.2.2) (λp=>J p.1 p.2.1 p.2.2.1 p.2.2.2) (λp=>μ p.1 p.2.1 p.2.2.1 p.2.2.2) ⟨(x0,x1,x2,x3),h1,h2,h3⟩ λp hp=>iV (round p.1 p.2.1 p.2.2.1 p.2.2.2 hp) ?_ (λ_ _ h=>h) (λ_ _ _ h=>h);rintro L' R' ⟨y0,y1,y2,y3,g1,g2,g3,g4⟩;exact⟨(y0,y1,y2,y3),⟨g1,g2⟩,g3,g4⟩
theorem eH {σ0 σ1 σ2 σ3 σ4:Type} {c:Code} {Q:fK} {L:Env} {R:List Row} (Lx:σ0->σ1->σ2->σ3->σ4->Env) (Rx:σ0->σ1->σ2->σ3->σ4->List Row) (J:σ0->σ1->σ2->σ3->σ4->Prop) (μ:σ0->σ1->σ2->σ3->σ4->Nat)
  (h0: ∃x0 x1 x2 x3 x4,J x0 x1 x2 x3 x4/\Sub (Lx x0 x1 x2 x3 x4) L/\ ∀w,Hp B w0 w R->Hp B w0 w (Rx x0 x1 x2 x3 x4))
  (round: ∀x0 x1 x2 x3 x4,J x0 x1 x2 x3 x4->W P n B w0 c {Q with nrm:=λL' R'=> ∃y0 y1 y2 y3 y4,J y0 y1 y2 y3 y4/\μ y0 y1 y2 y3 y4<μ x0 x1 x2 x3 x4/\Sub (Lx y0 y1 y2 y3 y4) L'/\ ∀w,Hp B w0 w R'->Hp B w0 w (Rx y0 y1 y2 y3 y4)} (Lx x0 x1 x2 x3 x4) (Rx x0 x1 x2 x3 x4)):W P n B w0 (.loop c) Q L R:=by
 obtain⟨x0,x1,x2,x3,x4,h1,h2,h3⟩:=h0;refine qQ (σ:=σ0 × σ1 × σ2 × σ3 × σ4) (λp=>Lx p.1 p.2.1 p.2.2.1 p.2.2.2.1 p.2.2.2.2) (λp=>Rx p.1 p.2.1 p.2.2.1 p.2.2.2.1 p.2.2.2.2) (λp=>J p.1 p.2.1 p.2.2.1 p.2.2.2.1 p.2.2.2.2) (λp=>μ p.1 p.2.1 p.2.2.1 p.2.2.2.1 p.2.2.2.2) ⟨(x0,x1,x2,x3,x4),h1,h2,h3⟩ λp hp=>iV (round p.1 p.2.1 p.2.2.1 p.2.2.2.1 p.2.2.2.2 hp) ?_ (λ_ _ h=>h) (λ_ _ _ h=>h);rintro L' R' ⟨y0,y1,y2,y3,y4,g1,g2,g3,g4⟩;exact⟨(y0,y1,y2,y3,y4),⟨g1,g2⟩,g3,g4⟩
theorem mX {σ0 σ1 σ2 σ3 σ4 σ5:Type} {c:Code} {Q:fK} {L:Env} {R:List Row} (Lx:σ0->σ1->σ2->σ3->σ4->σ5->Env) (Rx:σ0->σ1->σ2->σ3->σ4->σ5->List Row) (J:σ0->σ1->σ2->σ3->σ4->σ5->Prop) (μ:σ0->σ1->σ2->σ3->σ4->σ5->Nat)
  (h0: ∃x0 x1 x2 x3 x4 x5,J x0 x1 x2 x3 x4 x5/\Sub (Lx x0 x1 x2 x3 x4 x5) L/\ ∀w,Hp B w0 w R->Hp B w0 w (Rx x0 x1 x2 x3 x4 x5))
  (round: ∀x0 x1 x2 x3 x4 x5,J x0 x1 x2 x3 x4 x5->W P n B w0 c {Q with nrm:=λL' R'=> ∃y0 y1 y2 y3 y4 y5,J y0 y1 y2 y3 y4 y5/\μ y0 y1 y2 y3 y4 y5<μ x0 x1 x2 x3 x4 x5/\Sub (Lx y0 y1 y2 y3 y4 y5) L'/\ ∀w,Hp B w0 w R'->Hp B w0 w (Rx y0 y1 y2 y3 y4 y5)} (Lx x0 x1 x2 x3 x4 x5) (Rx x0 x1 x2 x3 x4 x5)):W P n B w0 (.loop c) Q L R:=by
 obtain⟨x0,x1,x2,x3,x4,x5,h1,h2,h3⟩:=h0;refine qQ (σ:=σ0 × σ1 × σ2 × σ3 × σ4 × σ5) (λp=>Lx p.1 p.2.1 p.2.2.1 p.2.2.2.1 p.2.2.2.2.1 p.2.2.2.2.2) (λp=>Rx p.1 p.2.1 p.2.2.1 p.2.2.2.1 p.2.2.2.2.1 p.2.2.2.2.2) (λp=>J p.1 p.2.1 p.2.2.1 p.2.2.2.1 p.2.2.2.2.1 p.2.2.2.2.2) (λp=>μ p.1 p.2.1 p.2.2.1 p.2.2.2.1 p.2.2.2.2.1 p.2.2.2.2.2) ⟨(x0,x1,x2,x3,x4,x5),h1,h2,h3⟩ λp hp=>iV (round p.1 p.2.1 p.2.2.1 p.2.2.2.1 p.2.2.2.2.1 p.2.2.2.2.2 hp) ?_ (λ_ _ h=>h) (λ_ _ _ h=>h);rintro L' R' ⟨y0,y1,y2,y3,y4,y5,g1,g2,g3,g4⟩;exact⟨(y0,y1,y2,y3,y4,y5),⟨g1,g2⟩,g3,g4⟩
theorem JI {σ0 σ1 σ2 σ3 σ4 σ5 σ6:Type} {c:Code} {Q:fK} {L:Env} {R:List Row} (Lx:σ0->σ1->σ2->σ3->σ4->σ5->σ6->Env) (Rx:σ0->σ1->σ2->σ3->σ4->σ5->σ6->List Row) (J:σ0->σ1->σ2->σ3->σ4->σ5->σ6->Prop) (μ:σ0->σ1->σ2->σ3->σ4->σ5->σ6->Nat)
  (h0: ∃x0 x1 x2 x3 x4 x5 x6,J x0 x1 x2 x3 x4 x5 x6/\Sub (Lx x0 x1 x2 x3 x4 x5 x6) L/\ ∀w,Hp B w0 w R->Hp B w0 w (Rx x0 x1 x2 x3 x4 x5 x6))
  (round: ∀x0 x1 x2 x3 x4 x5 x6,J x0 x1 x2 x3 x4 x5 x6->W P n B w0 c {Q with nrm:=λL' R'=> ∃y0 y1 y2 y3 y4 y5 y6,J y0 y1 y2 y3 y4 y5 y6/\μ y0 y1 y2 y3 y4 y5 y6<μ x0 x1 x2 x3 x4 x5 x6/\Sub (Lx y0 y1 y2 y3 y4 y5 y6) L'/\ ∀w,Hp B w0 w R'->Hp B w0 w (Rx y0 y1 y2 y3 y4 y5 y6)} (Lx x0 x1 x2 x3 x4 x5 x6) (Rx x0 x1 x2 x3 x4 x5 x6)):W P n B w0 (.loop c) Q L R:=by
 obtain⟨x0,x1,x2,x3,x4,x5,x6,h1,h2,h3⟩:=h0;refine qQ (σ:=σ0 × σ1 × σ2 × σ3 × σ4 × σ5 × σ6) (λp=>Lx p.1 p.2.1 p.2.2.1 p.2.2.2.1 p.2.2.2.2.1 p.2.2.2.2.2.1 p.2.2.2.2.2.2) (λp=>Rx p.1 p.2.1 p.2.2.1 p.2.2.2.1 p.2.2.2.2.1 p.2.2.2.2.2.1 p.2.2.2.2.2.2) (λp=>J p.1 p.2.1 p.2.2.1 p.2.2.2.1 p.2.2.2.2.1 p.2.2.2.2.2.1 p.2.2.2.2.2.2) (λp=>μ p.1 p.2.1 p.2.2.1 p.2.2.2.1 p.2.2.2.2.1 p.2.2.2.2.2.1 p.2.2.2.2.2.2) ⟨(x0,x1,x2,x3,x4,x5,x6),h1,h2,h3⟩ λp hp=>iV (round p.1 p.2.1 p.2.2.1 p.2.2.2.1 p.2.2.2.2.1 p.2.2.2.2.2.1 p.2.2.2.2.2.2 hp) ?_ (λ_ _ h=>h) (λ_ _ _ h=>h);rintro L' R' ⟨y0,y1,y2,y3,y4,y5,y6,g1,g2,g3,g4⟩;exact⟨(y0,y1,y2,y3,y4,y5,y6),⟨g1,g2⟩,g3,g4⟩
theorem uM {x y:Code} {Q:fK} {L:Env} {R:List Row} (L1:Env) (R1:List Row)
  (hx:W P n B w0 x {Q with nrm:=λL' R'=>Sub L1 L'/\ ∀w,Hp B w0 w R'->Hp B w0 w R1} L R) (hy:W P n B w0 y Q L1 R1):W P n B w0 (.seq x y) Q L R:=
 aD (iV hx (λ_ _ ⟨hL,hR⟩=>aHi hL hR hy) (λ_ _ h=>h) (λ_ _ _ h=>h))
theorem bU {Q:fK} {L:Env} {R R1:List Row} (hR: ∀w,Hp B w0 w R->Hp B w0 w R1) (h:Q.ret L R1):W P n B w0 .ret Q L R:=aHi (Sub.refl L) hR (bQ h)
def pickT (is:List Nat) (m:Nat) (R:List Row):List Row:=is.filterMap (λi=>R[i]?)++R.drop m
theorem Hp.pickT {B:Nat} {w0 w:World} {R:List Row} (h:Hp B w0 w R) (is:List Nat) (m:Nat) (hn:is.Nodup) (hR:is.map (λi=>(R.take m)[i]?)=(is.filterMap (λi=>R[i]?)).map some):Hp B w0 w (pickT is m R):=by
 rw[<-gy m R] at h;have hp:=kg.1 h.apart;have hF:Hp B w0 w (R.take m):=⟨h.below,h.base,λr hr=>h.own r (dz.2 (.inl hr)),hp.1,h.late⟩;have Vh:=hF.sel is hn hR
 have mem: ∀q∈is.filterMap (λi=>R[i]?),q∈R.take m:=by
  intro q hq;have h1:some q∈(is.filterMap (λi=>R[i]?)).map some:=ii.2 ⟨q,hq,rfl⟩;rw[<-hR] at h1;obtain⟨i,_,hi⟩:=ii.1 h1;exact gu hi
 refine⟨h.below,h.base,λr hr=> ?_,kg.2 ⟨Vh.apart,hp.2.1,λa ha b hb=>hp.2.2 a (mem a ha) b hb⟩,h.late⟩;rcases dz.1 hr with hr|hr
 ·exact Vh.own r hr
 ·exact h.own r (dz.2 (.inr hr))
theorem Ct.pick {P:Program} {B:Nat} {w0:World} {f:FuncId} {args:Array Value} {R:List Row} {Post:Value->List Row->Prop} (is:List Nat) (m:Nat) (hn:is.Nodup) (hR:is.map (λi=>(R.take m)[i]?)=(is.filterMap (λi=>R[i]?)).map some) (h:Ct P f args B w0 (pickT is m R) Post):Ct P f args B w0 R Post:=
 Ct.sub (λ_ hw=>hw.pickT is m hn hR) h
theorem aT {P:Program} {n:Nd} {B:Nat} {w0:World} {Q:fK} {L:Env} {R:List Row} (is:List Nat) (m:Nat) (hn:is.Nodup) (hR:is.map (λi=>(R.take m)[i]?)=(is.filterMap (λi=>R[i]?)).map some) (h:Q.ret L (pickT is m R)):W P n B w0 .ret Q L R:=
 bU (λ_ hw=>hw.pickT is m hn hR) h
theorem Ct.quiet {f:FuncId} {args:Array Value} {R:List Row} {Q:Value->Prop} (h: ∀w,Hp B w0 w R->Ct P f args w.heap.size w [] (λv _=>Q v)):Ct P f args B w0 R (λv R'=>R'=R/\Q v):=
 λw hw=>(h w hw w (Hp.refl w)).mono λ_ _ ⟨v,_,he,hh,hv⟩=>⟨v,R,he,(hw.join hh).right,rfl,hv⟩
theorem Sub.to {L1 L:Env} {t:Nat} {v u:Value} (h:lk L t=some v) (e:v=u) (hs:Sub L1 L):Sub ((t,u)::L1) L:=e▸Sub.cons h hs
variable {L:Env} {R:List Row} {ty:TypeId}
theorem run_equalIn_bool (w:World) (d:Nat) {t:TypeId} (p q:Bool) (ht:P.underlying t=some .bool):(Op.equalIn (d+1) t (.bool p) (.bool q)).run P w= .ok (p==q) w:=by
 simp only[Op.equalIn,jq,mh ht,jm];simp
theorem run_eql_bool (w:World) {t:TypeId} (p q:Bool) (ht:P.underlying t=some .bool):(binOp .eql t (.bool p) (.bool q)).run P w= .ok (.bool (p==q)) w:=by
 simp only[binOp,Op.equal,Op.maxDepth,jq,run_equalIn_bool w 9999 p q ht,jm,ng]
theorem aPv {x y:Operand} {t u:TypeId} {p q:Bool} (ht:P.underlying t=some .bool) (hx:ev L x=some (.bool p)) (hy:ev L y=some (.bool q)):Yl P n B w0 (.binOp .eql t x y u) ty L R (.bool (decide (p=q))):=by
 intro a w o ho _ hs _;have:(p==q)=decide (p=q):=by cases p<;>cases q<;>rfl
 simp only[execOp,ho,hs.ev hx,hs.ev hy,jq];simp[eqGuard,run_eql_bool w p q ht,this]
def aN (l:AH):Prop:= ∀x∈l,0<=x/\x<256
theorem aN.rd {l:AH} (h:aN l) (i:Int):0<=rd l i/\rd l i<256:=by
 unfold Eng.rd;rcases gm i.toNat l.length with h1|h1
 ·rw [ai,av h1];exact h _ (mg h1)
 ·rw [ai,lu h1];simp
theorem aN.take {l:AH} (h:aN l) (k:Nat):aN (l.take k):=λx hx=>h x (lc hx)
theorem aN.drop {l:AH} (h:aN l) (k:Nat):aN (l.drop k):=λx hx=>h x (ny hx)
theorem aN.append {l m:AH} (h:aN l) (h':aN m):aN (l++m):=λx hx=>(dz.1 hx).elim (h x) (h' x)
theorem aN.nil:aN []:=λ_ h=>by cases h
theorem BN {l m:AH} (hl:aN l) (hm:aN m):((strOfNums l).toList==(strOfNums m).toList)=decide (l=m):=by
 have key: ∀l:AH,aN l->((strOfNums l).toList.map λb=>(b.toNat:Int))=l:=by
  intro l hl
  have e:(strOfNums l).toList=l.map λx=>UInt8.ofNat x.toNat:=by
   rw[ByteArray.toList_eq];rfl
  rw[e,qo]
  conv=>rhs;rw[<-Jl l]
  refine vv λx hx=> ?_;obtain⟨h0,h1⟩:=hl x hx;simp only[Function.comp,id];rw[Cc (by simp[UInt8.size];omega)];omega
 by_cases h:l=m
 ·subst h;simp
 ·have:(strOfNums l).toList≠(strOfNums m).toList:=λe=>h (by rw[<-key l hl,<-key m hm,e]);simp[h,this]
theorem lX {x:Operand} {s e d:TypeId} {A:AF} {m c:Nat} {l:AH} (fj:P.underlying s=some (.slice e)) (he:P.underlying e=some (.int .u8)) (hd:P.underlying d=some .string) (hx:ev L x=some (.slice A m c)) (hr:RdC B w0 R A m c 1 (ints .u8 l)):
  Yl P n B w0 (.convert s d x) ty L R (.string (strOfNums l)):=by
 intro a w o ho _ hs hp;have gr:=hr w hp;have hl:=gr.len;rw[bX,qf] at hl
 have hc:(convert s d (.slice A m c)).run P w= .ok (.string (strOfNums l)) w:=by
  rcases A with _|ad
  ·have h0:l=[]:=by
    cases l with
    |nil=>rfl
    |cons y l'=>obtain⟨_,h,_⟩:=gr.at_ 0 (.int .u8 y) (by simp[ints]);cases h
   subst h0;exact run_convert_bytes_nil w s e fj he m c d hd
  ·have hlc:(loadCells ad m).run P w= .ok (l.map (Value.int .u8)).toArray w:=by
    have:=run_loadCells_list (P:=P) w ad (l.map (Value.int .u8)) (λj v hj=>by
     obtain⟨a',np,vd⟩:=gr.at_ j v hj;obtain rfl:=je np
     exact vd)
    simpa [hl] using this
   rw[run_convert_bytes_string w s d e _ m c fj he hd,run_bytesToString w _ m c l hlc,foldl_push_bytes];simp[strOfNums,ByteArray.empty,ByteArray.emptyWithCapacity];rfl
 simp[execOp,ho,hs.ev hx,hc]
theorem bIt {x y:Operand} {t u:TypeId} {p q:ByteArray} (hx:ev L x=some (.string p)) (hy:ev L y=some (.string q)):Yl P n B w0 (.binOp .eql t x y u) ty L R (.bool (p.toList==q.toList)):=by
 intro a w o ho _ hs _;simp[execOp,ho,binOp,eqGuard,hs.ev hx,hs.ev hy,Op.stringOp]
theorem QI {x y:Operand} {t u:TypeId} {p q:AH} (hx:ev L x=some (.string (strOfNums p))) (hy:ev L y=some (.string (strOfNums q))) (hp:aN p) (hq:aN q):Yl P n B w0 (.binOp .eql t x y u) ty L R (.bool (decide (p=q))):=by
 have:=bIt (P:=P) (n:=n) (B:=B) (w0:=w0) (R:=R) (ty:=ty) (t:=t) (u:=u) hx hy;rwa[BN hp hq] at this
theorem bIs {x y:Operand} {t u:TypeId} {p q:AH} (hx:ev L x=some (.string (strOfNums p))) (hy:ev L y=some (.string (strOfNums q))) (hp:aN p) (hq:aN q):Yl P n B w0 (.binOp .neq t x y u) ty L R (.bool (decide (p≠q))):=by
 intro a w o ho _ hs _;have h:=BN hp hq;have h2:(!decide (p=q))=decide (p≠q):=cD
 simp only[execOp,ho,binOp,eqGuard,hs.ev hx,hs.ev hy,Op.stringOp,h,h2];simp
theorem WV {x:Operand} {t e:TypeId} {r:Row} {g:Nat} (i:Nat) (hi:R[i]? =some r) (nc:r.ro=false) (ht:P.underlying t=some (.slice e)) (he:P.underlying e=some (.int .u8)) (hA:r.A=some ⟨g,0,none⟩) (hx:ev L x=some (.slice r.A r.n r.c)):
  Ac P n B w0 (.convert t t x) ty L R (λv R'=>v= .slice r.A r.n r.c/\R'=R.set i {r with ro:=true}):=by
 intro a w o K Q ho _ hs hp hk;have hw:=Row.lies_w (hp.own r (gu hi)) nc;rcases hw.2 with⟨hn,_⟩|⟨g',cap,cur,fj,hb,hg,hnc,tc,ke,k8⟩
 ·rw[hA] at hn;cases hn
 ·rw [hA] at fj;simp only[ku,mr,Az,Aj,Ak] at fj;obtain⟨rfl,rfl⟩:=fj
  have hg':(w.freeze ⟨g,cur.size,none⟩ 1).heap[g]? =some (.cells cur r.e (cur.size,cur.size+1)):=by
   have bp:g<w.heap.size:=(gp.1 hg).1;have hv:w.heap[g]= .cells cur r.e (0,0):=(gp.1 hg).2;simp[World.freeze,bp,Array.getElem_modify,hv]
  have Zn: ∀k,k≠g->(w.freeze ⟨g,cur.size,none⟩ 1).heap[k]? =w.heap[k]? :=by
   intro k hk;simp[World.freeze,vw,Gw hk]
  have hr:(convert t t (.slice r.A r.n r.c)).run P w= .ok (.slice r.A r.n r.c) (w.freeze ⟨g,cur.size,none⟩ 1):=by
   rw[hA];simp only[convert,jq,mh ht,jm,mh he,beq_self_eq_true];simp[markStringish,shape,Sem.run,World.shape?,hg,freeze]
  unfold Oper.wp;simp only[execOp,ho,hs.ev hx,jq,hr,jm,ng,Oper.upon];refine hk _ _ _ ?_ ⟨rfl,rfl⟩;refine hp.upd hi (row:=some g) ⟨by simp[World.freeze],by simp[World.freeze],by simp[World.freeze],by simp[World.freeze],λk _ cv=>Zn k (λe=>cv (by rw[e]))⟩ (by simp[World.freeze]) (λk hk=>⟨_,hA,by simpa using hk⟩) ?_ (λa' np=> .inl ⟨a',np,rfl⟩);unfold Row.lies;exact⟨g,cur,_,hA,hb,hg',qy hnc tc,hnc,hw.1,k8⟩
end
end Go.Eng
namespace Go.Eng
open Go Go.RowKit
def upd (l:AH) (i v:Int):AH:=l.set i.toNat v
theorem sF (k:IntKind) (l m:AH):ints k (l++m)=ints k l++ints k m:=by simp[ints]
theorem aUu (k:IntKind) (l:AH) (i v:Int):(ints k l).set i.toNat (.int k v)=ints k (upd l i v):=by simp[ints,upd,List.map_set]
theorem aX (l:AH) (i v:Int):(upd l i v).length=l.length:=by simp[upd]
theorem gH {l:AH} {i j v:Int} (hi:0<=i) (hj:0<=j) (h:i<l.length):rd (upd l i v) j=if j=i then v else rd l j:=by
 unfold rd upd;rw[ai,ai,xm];by_cases e:j=i
 ·subst e;have:j.toNat<l.length:=G
  simp[this]
 ·have: ¬i.toNat=j.toNat:=G
  simp[e,this]
theorem MF {l m:AH} {i:Int} (h0:0<=i) (h:i<l.length):rd (l++m) i=rd l i:=by
 unfold rd;rw[ai,ai,jl G]
theorem PW {l:AH} {x i:Int} (h:i=l.length):rd (l++[x]) i=x:=by
 subst h;simp[rd]
theorem DL (k:IntKind) (l:AH): ∀u∈ints k l,u.oneCell'=true:=by
 intro u hu;obtain⟨x,_,rfl⟩:=ii.1 hu;rfl
section
variable {P:Program} {n:Nd} {B:Nat} {w0:World} {L:Env} {R:List Row} {ty:TypeId}
theorem zR (k:IntKind):RdC B w0 R none 0 0 1 (ints k []):=λ_ _=>⟨rfl,G,G,λj v hv=>by simp[ints] at hv⟩
theorem bG {x y:Operand} {t e:TypeId} {j v:Int} {A:AF} {m c:Nat} {k:IntKind} {l:AH} (i:Nat) (hi:R[i]? =some ⟨e,1,A,m,c,ints k l,false⟩) (ge:(P.info? t).map (·.size)=some 1) (hx:ev L x=some (.pointer (pat A j.toNat))) (hy:ev L y=some (.int k v)) (h0:0<=j:=by omega) (h1:j<m:=by omega):
  Ac P n B w0 (.store t x y) ty L R (λ_ R'=>R'=R.set i ⟨e,1,A,m,c,ints k (upd l j v),false⟩):=by
 intro a w o K Q ho Hk hs hp hk;have ij:=Row.lies_w (hp.own _ (gu hi)) rfl;have gr:=Row.rd (hp.own _ (gu hi));have hl:=gr.len
 obtain⟨g,hA⟩: ∃g,A=some ⟨g,0,none⟩:=by
  rcases ij.2 with⟨_,hn⟩|⟨g,cap,cur,hv,_⟩
  ·simp only at hn;omega
  ·simp only[ku] at hv;exact⟨g,hv.1⟩
 have:=WU (P:=P) (n:=n) (B:=B) (w0:=w0) (ty:=ty) i hi rfl hA ge hx rfl hy rfl rfl (by rw[hl];simp only;omega);simp only[aUu] at this;exact this a w o K Q ho Hk hs hp hk
theorem aQ {s x:Operand} {t e:TypeId} {bytes m p c c2:Nat} {A A2:AF} {k:IntKind} {l news:AH} (i:Nat) (hi:R[i]? =some ⟨e,1,A,p,c,ints k l,false⟩) (ht:P.underlying t=some (.slice e)) (dt:(P.info? e).map (λi=>(i.zero,i.size,i.bytes))=some (some (.int k 0),1,bytes)) (o7:Nat.blt 0 bytes=true)
  (hs:ev L s=some (.slice A p c)) (hx:ev L x=some (.slice A2 m c2)) (gr:RdC B w0 R A2 m c2 1 (ints k news)) (kl:(p+m)*bytes<=140737488355328:=by omega):
  Ac P n B w0 (.call {callee:= .builtin .append,args:= #[s,x],argTypes:= #[t,t]}) ty L R (λv R'=> ∃A' c',v= .slice A' (p+m) c'/\R'=R.set i ⟨e,1,A',p+m,c',ints k (l++news),false⟩):=by
 have:=fJ (P:=P) (n:=n) (B:=B) (w0:=w0) (ty:=ty) i hi rfl ht dt rfl rfl o7 hs hx gr (DL k news) kl;simp only[<-sF] at this;exact this
theorem aSc (k:IntKind) (m:Nat) (x:Int):List.replicate m (Value.int k x)=ints k (List.replicate m x):=by simp[ints]
theorem dM {x y:Operand} {t e:TypeId} {k:IntKind} {bytes:Nat} {m:Int} (ht:P.underlying t=some (.slice e)) (dt:(P.info? e).map (λi=>(i.zero,i.size,i.bytes))=some (some (.int k 0),1,bytes))
  (hx:ev L x=some (.int .i64 m)) (hy:ev L y=some (.int .i64 m)) (h0:0<=m:=by omega) (hm:m*bytes<=281474976710656:=by omega) (Jf:m<=9223372036854775807:=by omega):
  Ac P n B w0 (.makeSlice t x y) ty L R (λv R'=> ∃g,v= .slice (some ⟨g,0,none⟩) m.toNat m.toNat/\R'=⟨e,1,some ⟨g,0,none⟩,m.toNat,m.toNat,ints k (List.replicate m.toNat 0),false⟩::R):=by
 have:=aKc (P:=P) (n:=n) (B:=B) (w0:=w0) (L:=L) (R:=R) (ty:=ty) ht dt rfl hx hy h0 hm Jf;simpa only[aSc] using this
theorem Yl.t {op:Op} {p:Prop} [Decidable p] (hy:Yl P n B w0 op ty L R (.bool (decide p))) (h:p):Yl P n B w0 op ty L R (.bool true):=by rwa[ni h] at hy
theorem Yl.f {op:Op} {p:Prop} [Decidable p] (hy:Yl P n B w0 op ty L R (.bool (decide p))) (h: ¬p:=by omega):Yl P n B w0 op ty L R (.bool false):=by rwa[qa h] at hy
theorem Yl.is {op:Op} {v u:Value} (hy:Yl P n B w0 op ty L R v) (h:v=u):Yl P n B w0 op ty L R u:=h▸hy
theorem mW {ops:Array Oper} {l:List Oper} {K:Env->List Row->Prop} (d:Nat) {p:Prop} [Decidable p] (h:lk L d=some (.bool (decide p))) (hp:p) (hn:WR P n B w0 ops l K ((d, .bool true)::L) R):WR P n B w0 ops l K L R:=
 bT (qJ (by rw[h,ni hp])) (λ_ h=>h) hn
theorem rT {ops:Array Oper} {l:List Oper} {K:Env->List Row->Prop} (d:Nat) {p:Prop} [Decidable p] (h:lk L d=some (.bool (decide p))) (hp: ¬p) (hn:WR P n B w0 ops l K ((d, .bool false)::L) R):WR P n B w0 ops l K L R:=
 bT (qJ (by rw[h,qa hp])) (λ_ h=>h) hn
theorem lS {ops:Array Oper} {l2:List Oper} {Q:Exit->Act->World->Prop}: ∀(l1:List Oper) (a:Act) (w:World),wpList P ops (λe a w=>match e with| .normal=>wpList P ops Q l2 a w|e=>Q e a w) l1 a w->wpList P ops Q (l1++l2) a w
 |[],a,w,h=>h
 | o ::l1,a,w,h=>by
  simp only[jf];unfold wpList at h ⊢;split
  ·rename_i hw;rw[di hw] at h;rcases h with h|⟨h1,h2⟩
   ·left;unfold Oper.wp at h ⊢;generalize (execOp a.eval o).run P w=r at*;cases r with
    | ok n w'=>
     cases n<;>simp only[Oper.upon] at h ⊢ <;>first
      |exact lS l1 _ _ h
      |exact Calls.mono h (λe Pn he=>by cases e<;>first|exact lS l1 _ _ he|exact he)
      |exact Rows.mono h (λ_ _ he=>lS l1 _ _ he)
    |halt x w'=>cases x<;>simp only[Oper.upon] at h ⊢ <;>exact h
   ·exact .inr ⟨h1,h2⟩
  ·rename_i hw;rw[df hw] at h;exact lS l1 _ _ h
theorem bV {ops:Array Oper} {l:List Oper} {K:Env->List Row->Prop} (k:Nat) (L1:Env) (R1:List Row) (h1:WR P n B w0 ops (l.take k) (λL' R'=>Sub L1 L'/\ ∀w,Hp B w0 w R'->Hp B w0 w R1) L R) (h2:WR P n B w0 ops (l.drop k) K L1 R1):WR P n B w0 ops l K L R:=by
 intro a w Q hs hp hq;rw[<-gy k l];refine lS _ a w (h1 a w _ hs hp λa' w' L' R' fj da ⟨hL,hR⟩=> ?_);exact h2 a' w' Q (fj.sub hL) (hR w' da) hq
theorem bNs {p:Prop} [Decidable p] (h:p):Value.bool true=Value.bool (decide p):=by rw[ni h]
theorem bNt {p:Prop} [Decidable p] (h: ¬p):Value.bool false=Value.bool (decide p):=by rw[qa h]
theorem mb {p q:Prop} [Decidable p] [Decidable q] (h:p↔q):Value.bool (decide p)=Value.bool (decide q):=by rw[sj.2 h]
def enu:Nat->AG->List (Nat × Value)
 |_,[]=>[]
 |k,v::vs=>(k,v)::enu (k+1) vs
theorem cells_one {v:Value} (h:v.oneCell'=true):v.cells= #[v]:=by cases v<;>first|rfl|(simp[Value.oneCell'] at h)
theorem aAl: ∀(vs pre post:AG),vs.all (·.oneCell')=true->vs.length=post.length->Instr.fill (λi=>some (i*1,1)) (pre++post).toArray (enu pre.length vs)=some (pre++vs).toArray
 |[],pre,post,_,hl=>by
  have:post=[]:=dw (by simpa using hl.symm);subst this;simp[enu,Instr.fill]
 | v::vs,pre,post,h1,hl=>by
  cases post with
  |nil=>simp at hl
  | cons q post=>
   simp only[Ec,qi] at h1;have hc:=cells_one h1.1;have ih:=aAl vs (pre++[v]) post h1.2 (by simpa using hl);simp only[ah,ib] at ih;simp only[enu,Instr.fill,qf];rw[hc];have hn: ¬((#[v]:Array Value).size≠1\/pre.length+(#[v]:Array Value).size>(pre++q::post).toArray.size):=cD
   simp only[hn,Ar,zz,xx]
   have e:((#[v]:Array Value).zipIdx.foldl (λcs x=>cs.setIfInBounds (pre.length+x.2) x.1) (pre++q::post).toArray)=(pre++[v]++post).toArray:=by
    simp
   simp only[qf,gq,jf,jd] at ih;simp only[e,gq,jf,jd];exact ih
theorem iQ {t e:TypeId} {z:Value} {len:Nat} {ps:List (Nat × Operand)} (vals:AG) (ht:P.underlying t=some (.slice e)) (dt:(P.info? e).map (λi=>(i.zero,i.size))=some (some z,1)) (hv:evp L ps=some (enu 0 vals))
  (h1:vals.all (·.oneCell')=true) (hl:vals.length=len) (rm:Nat.ble len 16777216=true):
  Ac P n B w0 (.buildSlice t len ps.toArray) ty L R (λv R'=> ∃g,v= .slice (some ⟨g,0,none⟩) len len/\R'=⟨e,1,some ⟨g,0,none⟩,len,len,vals,false⟩::R):=by
 have hf:=aAl vals [] (((Array.range (len*1)).map ((bif Nat.beq (len*1) 0 then #[] else z.cells)[· %(bif Nat.beq (len*1) 0 then #[] else z.cells).size]!)).toList) h1 (by simp[hl]);simp only[jb,jd,Array.toArray_toList] at hf;have:=qG (P:=P) (n:=n) (B:=B) (w0:=w0) (L:=L) (R:=R) (ty:=ty) (len:=len) ht dt hv (by rw[qf];exact rm) rm hf (by simp[hl]);simpa using this
theorem bH {t e:TypeId} {z:Value} {len:Nat} {ps:List (Nat × Operand)} (k:IntKind) (l:AH) (ht:P.underlying t=some (.slice e)) (dt:(P.info? e).map (λi=>(i.zero,i.size))=some (some z,1)) (hv:evp L ps=some (enu 0 (ints k l)))
  (hl:l.length=len) (rm:Nat.ble len 16777216=true):
  Ac P n B w0 (.buildSlice t len ps.toArray) ty L R (λv R'=> ∃g,v= .slice (some ⟨g,0,none⟩) len len/\R'=⟨e,1,some ⟨g,0,none⟩,len,len,ints k l,false⟩::R):=
 iQ (ints k l) ht dt hv (by rw[xc];exact DL k l) (by rw[bX,hl]) rm
theorem Rd.lenI {w:World} {A:AF} {m c:Nat} {k:IntKind} {l:AH} (h:Rd w A m c 1 (ints k l)):m=l.length:=by
 have:=h.len;rw[bX] at this;omega
end
end Go.Eng
namespace Go.Eng
open Go Go.RowKit
section
variable {P:Program} {n:Nd} {B:Nat} {w0:World} {ops:Array Oper} {l:List Oper} {K:Env->List Row->Prop} {L:Env} {R:List Row} {op:Op} {ty:TypeId} {pos:String} {ob:Array Edge} {d:Nat}
theorem wy {v:Value} (hy:Yl P n B w0 op ty L R v) (h:WR P n B w0 ops l K ((d,v)::L) R) (hn:Nat.blt d n=true:=by exact rfl):WR P n B w0 ops ({dst:=some d,op:=op,type:=ty,pos:=pos,after:=ob,guard:=none}::l) K L R:=UG hn hy h
theorem wa {Post:Value->List Row->Prop} (ha:Ac P n B w0 op ty L R Post) (h: ∀v R',Post v R'->WR P n B w0 ops l K ((d,v)::L) R') (hn:Nat.blt d n=true:=by exact rfl):WR P n B w0 ops ({dst:=some d,op:=op,type:=ty,pos:=pos,after:=ob,guard:=none}::l) K L R:=bNm hn ha h
theorem wm {x:Operand} {v:Value} (hx:ev L x=some v) (h:WR P n B w0 ops l K ((d,v)::L) R) (hn:Nat.blt d n=true:=by exact rfl):WR P n B w0 ops ({dst:=some d,op:= .move x,type:=ty,pos:=pos,after:=ob,guard:=none}::l) K L R:=UG hn (aJ hx) h
theorem wg {x:Operand} {v:Value} (hx:ev L x=some v) (h:WR P n B w0 ops l K ((d,v)::L) R) (hn:Nat.blt d n=true:=by exact rfl):WR P n B w0 ops ({dst:=some d,op:= .assign x,type:=ty,pos:=pos,after:=ob,guard:=none}::l) K L R:=UG hn (bB hx) h
theorem wA {x y:Operand} {t u:TypeId} {p q:Int} (hx:ev L x=some (.int .i64 p)) (hy:ev L y=some (.int .i64 q)) (h:WR P n B w0 ops l K ((d, .int .i64 (p+q))::L) R) (hn:Nat.blt d n=true:=by exact rfl) (hb: -9223372036854775808<=p+q/\p+q<=9223372036854775807:=by omega):WR P n B w0 ops ({dst:=some d,op:= .binOp .add t x y u,type:=ty,pos:=pos,after:=ob,guard:=none}::l) K L R:=UG hn (cK hx hy hb) h
theorem wS {x y:Operand} {t u:TypeId} {p q:Int} (hx:ev L x=some (.int .i64 p)) (hy:ev L y=some (.int .i64 q)) (h:WR P n B w0 ops l K ((d, .int .i64 (p-q))::L) R) (hn:Nat.blt d n=true:=by exact rfl) (hb: -9223372036854775808<=p-q/\p-q<=9223372036854775807:=by omega):WR P n B w0 ops ({dst:=some d,op:= .binOp .sub t x y u,type:=ty,pos:=pos,after:=ob,guard:=none}::l) K L R:=UG hn (mE hx hy hb) h
theorem wL {x y:Operand} {t u:TypeId} {k:IntKind} {p q:Int} (hx:ev L x=some (.int k p)) (hy:ev L y=some (.int k q)) (h:WR P n B w0 ops l K ((d, .bool (decide (p<q)))::L) R) (hn:Nat.blt d n=true:=by exact rfl):WR P n B w0 ops ({dst:=some d,op:= .binOp .lss t x y u,type:=ty,pos:=pos,after:=ob,guard:=none}::l) K L R:=UG hn (eZ hx hy) h
theorem wQ {x y:Operand} {t u:TypeId} {k:IntKind} {p q:Int} (hx:ev L x=some (.int k p)) (hy:ev L y=some (.int k q)) (h:WR P n B w0 ops l K ((d, .bool false)::L) R) (hn:Nat.blt d n=true:=by exact rfl) (hb: ¬p=q:=by decide):WR P n B w0 ops ({dst:=some d,op:= .binOp .eql t x y u,type:=ty,pos:=pos,after:=ob,guard:=none}::l) K L R:=UG hn (Yl.f (fD hx hy) hb) h
theorem wR {x y:Operand} {t u:TypeId} {k:IntKind} {p q:Int} (hx:ev L x=some (.int k p)) (hy:ev L y=some (.int k q)) (h:WR P n B w0 ops l K ((d, .bool true)::L) R) (hn:Nat.blt d n=true:=by exact rfl) (hb:p=q:=by decide):WR P n B w0 ops ({dst:=some d,op:= .binOp .eql t x y u,type:=ty,pos:=pos,after:=ob,guard:=none}::l) K L R:=UG hn (Yl.t (fD hx hy) hb) h
theorem wX {i:Nat} {x:Operand} {vs:Array Value} {v:Value} (hx:ev L x=some (.tuple vs)) (hv:vs[i]? =some v) (h:WR P n B w0 ops l K ((d,v)::L) R) (hn:Nat.blt d n=true:=by exact rfl):WR P n B w0 ops ({dst:=some d,op:= .extract x i,type:=ty,pos:=pos,after:=ob,guard:=none}::l) K L R:=UG hn (EU hx hv) h
theorem wD {v:Value} {bm:Nat} {ab:AI} (i:Nat) (hi:ops[i]? =some {dst:=some d,op:=op,type:=ty,pos:=pos,after:=ob,guard:=none}) (hy:Yl P n B w0 op ty L R v) (h:WD P n B w0 ops K bm (ab.setIfInBounds i true) ((d,v)::L) R) (hc:chk ops ab i=true:=by kernel_rfl) (hn:Nat.blt d n=true:=by exact rfl):WD P n B w0 ops K (bm+1) ab L R:=bNn i hi hc hn hy h
theorem wq {id:Nat} {l:List Oper} {y:Code} {Q:fK} (h:WR P n B w0 l.toArray l (λL R=>W P n B w0 y Q L R) L R) (hd:DD n.rd l=true:=by exact rfl):W P n B w0 (.seq (.region id l.toArray false) y) Q L R:=aD (aK h hd)
theorem mbA {p q:Prop} [Decidable p] [Decidable q] (h:p↔q:=by first|omega|exact⟨λh=>⟨cF,h⟩,λh=>h.2⟩|exact .inl cF|exact⟨.inr,λh=>h.resolve_left cF⟩|exact⟨λh=>h.resolve_left cF, .inr⟩|simp[*]):Value.bool (decide p)=Value.bool (decide q):=mb h
theorem mfA {p:Prop} [Decidable p] (h: ¬p:=by first|omega|exact⟨λh=>⟨cF,h⟩,λh=>h.2⟩|exact .inl cF|exact⟨.inr,λh=>h.resolve_left cF⟩|exact⟨λh=>h.resolve_left cF, .inr⟩|simp[*]):Value.bool false=Value.bool (decide p):=bNt h
theorem mtA {p:Prop} [Decidable p] (h:p:=by first|omega|exact⟨λh=>⟨cF,h⟩,λh=>h.2⟩|exact .inl cF|exact⟨.inr,λh=>h.resolve_left cF⟩|exact⟨λh=>h.resolve_left cF, .inr⟩|simp[*]):Value.bool true=Value.bool (decide p):=bNs h
theorem wG {j e:Nat} {want:Bool} {v:Value} {bm:Nat} {ab:AI} (i:Nat) (hi:ops[i]? =some {dst:=some d,op:=op,type:=ty,pos:=pos,after:=ob,guard:=some (j,want)}) (hj:(ops[j]?).bind (·.dst)=some e) (hb:lk L e=some (.bool want)) (hy:Yl P n B w0 op ty L R v) (h:WD P n B w0 ops K bm (ab.setIfInBounds i true) ((d,v)::L) R) (hc:chk ops ab i=true:=by kernel_rfl) (hn:Nat.blt d n=true:=by exact rfl):WD P n B w0 ops K (bm+1) ab L R:=bIu i hi hc hn hj hb hy h
theorem wO {j e:Nat} {want b:Bool} {bm:Nat} {ab:AI} (i:Nat) (hi:ops[i]? =some {dst:=some d,op:=op,type:=ty,pos:=pos,after:=ob,guard:=some (j,want)}) (hj:(ops[j]?).bind (·.dst)=some e) (hb:lk L e=some (.bool b)) (h:WD P n B w0 ops K bm (ab.setIfInBounds i true) ((d,undef)::L) R) (hc:chk ops ab i=true:=by kernel_rfl) (hn:Nat.blt d n=true:=by exact rfl) (cv:(b==want)=false:=by exact rfl):WD P n B w0 ops K (bm+1) ab L R:=bIv i hi hc hn hj hb cv h
theorem wC {Post:Value->List Row->Prop} {bm:Nat} {ab:AI} (i:Nat) (hi:ops[i]? =some {dst:=some d,op:=op,type:=ty,pos:=pos,after:=ob,guard:=none}) (ha:Ac P n B w0 op ty L R Post) (h: ∀v R',Post v R'->(OW ops ab i=true\/ ∀w,Hp B w0 w R'->Hp B w0 w R)/\WD P n B w0 ops K bm (ab.setIfInBounds i true) ((d,v)::L) R') (hr:Region.ready .any ops ab=[i]:=by kernel_rfl) (hn:Nat.blt d n=true:=by exact rfl):WD P n B w0 ops K (bm+1) ab L R:=bNp i hi hr hn ha h
theorem wN {bm:Nat} {ab:AI} (h:K L R) (hr:Region.ready .any ops ab=[]:=by kernel_rfl):WD P n B w0 ops K bm ab L R:=bFj hr h
theorem wn {x:Operand} {v:Value} (hx:ev L x=some v) (h:K ((d,v)::L) R) (hn:Nat.blt d n=true:=by exact rfl):WR P n B w0 ops ({dst:=some d,op:= .assign x,type:=ty,pos:=pos,after:=ob,guard:=none}::[]) K L R:=wg hx (aA h) hn
theorem sc {L1 L:Env} {t:Nat} {v:Value} (h:lk L t=some v) (hs:Sub L1 L):Sub ((t,v)::L1) L:=Sub.cons h hs
theorem SA {L1 L:Env} (h:Sub L1 L:=by repeat' first|exact Sub.nil|refine sc rfl ?_|refine Sub.to rfl mbA ?_|refine Sub.to rfl mfA ?_|refine Sub.to rfl mtA ?_):Sub L1 L:=h
theorem KP {L1 L:Env} {R1 R:List Row} (h:Sub L1 L:=by repeat' first|exact Sub.nil|refine sc rfl ?_|refine Sub.to rfl mbA ?_|refine Sub.to rfl mfA ?_|refine Sub.to rfl mtA ?_) (e:R=R1:=by exact rfl):Sub L1 L/\ ∀w,Hp B w0 w R->Hp B w0 w R1:=⟨h,λ_ hw=>e▸hw⟩
theorem hiZ: ∀w,Hp B w0 w R->Hp B w0 w R:=λ_ h=>h
theorem hrZ {r:Row}: ∀w,Hp B w0 w (r::R)->Hp B w0 w R:=λ_ h=>h.tail
abbrev CT:= @Ct Go.Proofs.Tryz.prog
abbrev CF (f:FuncId) (a:Array Value) (w:World) (Q:Value->List Row->Prop):Prop:=Ct Go.Proofs.Tryz.prog f a w.heap.size w [] Q
abbrev I (x:Int):Value:= .int .i64 x
abbrev GG (g:Nat):AF:=some ⟨g,0,none⟩
abbrev PG (g:Nat):Value:= .pointer (GG g)
abbrev sl (A:AF) (m c:Nat):Value:= .slice A m c
abbrev bt:Value:= .bool true
abbrev bf:Value:= .bool false
abbrev rc (e s g:Nat) (l:AG):Row:=⟨e,s,some ⟨g,0,none⟩,1,1,l,false⟩
abbrev ri (e:TypeId) (A:AF) (m c:Nat) (l:AH):Row:=⟨e,1,A,m,c,ints .i64 l,false⟩
abbrev ru (e:TypeId) (A:AF) (m c:Nat) (l:AH):Row:=⟨e,1,A,m,c,ints .u8 l,false⟩
end
end Go.Eng
namespace Go.Proofs.YtdbebmmhdefgdaaGreat
open Go Go.Eng
theorem mixed:Tryz.prog.follows .mixedOrders=true:=cA
theorem sz2:(Tryz.prog.info? 2).map (·.size)=some 1:=cA
theorem sz3:(Tryz.prog.info? 3).map (·.size)=some 1:=cA
theorem zb3:(Tryz.prog.info? 3).map (λi=>(i.zero,i.size,i.bytes))=some (some (.int .i64 0),1,8):=cA
theorem zs3:(Tryz.prog.info? 3).map (λi=>(i.zero,i.size))=some (some (.int .i64 0),1):=cA
theorem sz4:(Tryz.prog.info? 4).map (·.size)=some 1:=cA
theorem zb4:(Tryz.prog.info? 4).map (λi=>(i.zero,i.size,i.bytes))=some (some (.bool false),1,1):=cA
theorem sz5:(Tryz.prog.info? 5).map (·.size)=some 1:=cA
theorem zb5:(Tryz.prog.info? 5).map (λi=>(i.zero,i.size,i.bytes))=some (some (.int .u8 0),1,1):=cA
theorem zs5:(Tryz.prog.info? 5).map (λi=>(i.zero,i.size))=some (some (.int .u8 0),1):=cA
theorem bNr:(Tryz.prog.info? 21).map (·.size)=some 1:=cA
theorem dH:(Tryz.prog.info? 22).map (·.size)=some 1:=cA
theorem yY:(Tryz.prog.info? 22).map (λi=>(i.zero,i.size,i.bytes))=some (some (.slice none 0 0),1,24):=cA
theorem nS:(Tryz.prog.info? 22).map (λi=>(i.zero,i.size))=some (some (.slice none 0 0),1):=cA
theorem bFb:(Tryz.prog.info? 22).map (·.zero)=some (some (.slice none 0 0)):=cA
theorem jC:(Tryz.prog.info? 23).map (·.size)=some 1:=cA
theorem pJ:(Tryz.prog.info? 25).map (·.size)=some 2:=cA
theorem bIj:(Tryz.prog.info? 25).map (·.zero)=some (some (.agg #[(.slice none 0 0),(.slice none 0 0)])):=cA
theorem eQ:(Tryz.prog.info? 27).map (·.size)=some 4:=cA
theorem bIi:(Tryz.prog.info? 27).map (·.zero)=some (some (.agg #[(.int .i64 0),(.int .i64 0),(.int .i64 0),(.int .i64 0)])):=cA
theorem fV:(Tryz.prog.info? 52).map (·.size)=some 1:=cA
theorem bNl:(Tryz.prog.info? 52).map (λi=>(i.zero,i.size,i.bytes))=some (some (.slice none 0 0),1,24):=cA
theorem bIk:(Tryz.prog.info? 52).map (λi=>(i.zero,i.size))=some (some (.slice none 0 0),1):=cA
theorem bNk:(Tryz.prog.info? 52).map (·.zero)=some (some (.slice none 0 0)):=cA
theorem aKv:(Tryz.prog.info? 84).map (·.size)=some 1:=cA
theorem dP:(Tryz.prog.info? 112).map (·.size)=some 1:=cA
theorem QW:(Tryz.prog.info? 117).map (·.size)=some 2:=cA
theorem bIn:(Tryz.prog.info? 117).map (λi=>(i.zero,i.size,i.bytes))=some (some (.agg #[(.slice none 0 0),(.int .i64 0)]),2,32):=cA
theorem bIm:(Tryz.prog.info? 117).map (λi=>(i.zero,i.size))=some (some (.agg #[(.slice none 0 0),(.int .i64 0)]),2):=cA
theorem bDh:(Tryz.prog.info? 117).map (·.zero)=some (some (.agg #[(.slice none 0 0),(.int .i64 0)])):=cA
theorem aQv:(Tryz.prog.info? 123).map (·.size)=some 1:=cA
theorem aQu:(Tryz.prog.info? 135).map (·.size)=some 1:=cA
theorem aQt:(Tryz.prog.info? 136).map (·.size)=some 3:=cA
theorem BM:(Tryz.prog.info? 185).map (·.size)=some 1:=cA
theorem bIy:(Tryz.prog.info? 198).map (·.size)=some 3:=cA
theorem bIx:(Tryz.prog.info? 200).map (·.size)=some 1:=cA
theorem bDs:(Tryz.prog.info? 201).map (·.size)=some 256:=cA
theorem aQs:(Tryz.prog.info? 223).map (·.size)=some 1:=cA
theorem bIl:(Tryz.prog.info? 223).map (λi=>(i.zero,i.size))=some (some (.pointer none),1):=cA
theorem XW:(Tryz.prog.info? 228).map (·.size)=some 1:=cA
theorem jQ:(Tryz.prog.info? 230).map (·.size)=some 2:=cA
theorem vN:(Tryz.prog.info? 230).map (λi=>(i.zero,i.size,i.bytes))=some (some (.agg #[(.int .i64 0),(.int .i64 0)]),2,16):=cA
theorem KE:(Tryz.prog.info? 230).map (λi=>(i.zero,i.size))=some (some (.agg #[(.int .i64 0),(.int .i64 0)]),2):=cA
theorem aHe:(Tryz.prog.info? 230).map (·.zero)=some (some (.agg #[(.int .i64 0),(.int .i64 0)])):=cA
theorem QV:(Tryz.prog.info? 248).map (·.size)=some 3:=cA
theorem aQr:(Tryz.prog.info? 269).map (·.size)=some 1:=cA
theorem bIw:(Tryz.prog.info? 350).map (·.size)=some 1:=cA
theorem bIh:(Tryz.prog.info? 350).map (·.zero)=some (some (.pointer none)):=cA
abbrev bCd:=enters Jn cA cA
abbrev bHk:=enters Jo cA cA
abbrev bOs:=enters Tryz.func19 cA cA
abbrev bLj:=enters Tryz.func21 cA cA
abbrev bHj:=enters Tryz.func22 cA cA
abbrev WF:=enters Tryz.func23 cA cA
abbrev aOf:=enters Tryz.func24 cA cA
abbrev bHi:=enters Tryz.func25 cA cA
abbrev bHh:=enters Es cA cA
abbrev xJ:=enters Tryz.func37 cA cA
abbrev AB:=enters Tryz.func38 cA cA
abbrev bJj:=enters Tryz.func39 cA cA
abbrev bJi:=enters Tryz.func40 cA cA
abbrev bJh:=enters Gx cA cA
abbrev bHg:=enters Jp cA cA
abbrev QA:=enters Tryz.func43 cA cA
abbrev aOe:=enters Tryz.func44 cA cA
abbrev bOr:=enters Tryz.func45 cA cA
abbrev bOq:=enters Jq cA cA
abbrev bOp:=enters Tryz.func47 cA cA
abbrev bOo:=enters Tryz.func50 cA cA
abbrev bOn:=enters Tryz.func51 cA cA
abbrev bOm:=enters Tryz.func52 cA cA
abbrev bOl:=enters Tryz.func53 cA cA
abbrev aOd:=enters Tryz.func57 cA cA
abbrev bOk:=enters Tryz.func60 cA cA
abbrev bOj:=enters Tryz.func67 cA cA
abbrev aOc:=enters Jr cA cA
abbrev bOi:=enters Tryz.func69 cA cA
abbrev bOh:=enters Tryz.func70 cA cA
abbrev bJg:=enters Tryz.func71 cA cA
abbrev bOg:=enters Tryz.func72 cA cA
abbrev bJf:=enters Tryz.func73 cA cA
abbrev bCc:=enters Gy cA cA
abbrev aVu:=enters Tryz.func75 cA cA
abbrev bCb:=enters Tryz.func76 cA cA
abbrev aFu:=enters Tryz.func77 cA cA
abbrev aFt:=enters Tryz.func78 cA cA
abbrev bOf:=enters Tryz.func79 cA cA
abbrev bOe:=enters Tryz.func80 cA cA
abbrev bCa:=enters Tryz.func81 cA cA
abbrev bOd:=enters Tryz.func82 cA cA
abbrev bOc:=enters Tryz.func83 cA cA
abbrev bOb:=enters Gz cA cA
abbrev bJe:=enters Tryz.func87 cA cA
abbrev bOa:=enters Tryz.func89 cA cA
abbrev aOb:=enters Tryz.func90 cA cA
abbrev bNz:=enters Js cA cA
abbrev bNy:=enters Tryz.func92 cA cA
abbrev aVt:=enters Tryz.func93 cA cA
abbrev bNx:=enters Tryz.func94 cA cA
abbrev bHf:=enters Tryz.func95 cA cA
abbrev bBz:=enters Tryz.func96 cA cA
abbrev bNb:=enters Tryz.func104 cA cA
abbrev bEz:=enters Tryz.func105 cA cA
abbrev bNa:=enters Tryz.func106 cA cA
abbrev bEy:=enters Tryz.func107 cA cA
abbrev bMz:=enters Tryz.func109 cA cA
abbrev bMy:=enters Tryz.func110 cA cA
abbrev bMx:=enters Tryz.func111 cA cA
abbrev bMw:=enters Tryz.func113 cA cA
abbrev aWp:=enters Il cA cA
abbrev bMv:=enters Tryz.func115 cA cA
abbrev bMu:=enters Tryz.func116 cA cA
abbrev bMt:=enters Tryz.func117 cA cA
abbrev bMs:=enters Tryz.func118 cA cA
abbrev bEx:=enters Tryz.func119 cA cA
abbrev bMr:=enters Tryz.func120 cA cA
abbrev aBa:=enters Tryz.func121 cA cA
abbrev bEw:=enters Tryz.func122 cA cA
abbrev bMq:=enters Tryz.func124 cA cA
abbrev bMp:=enters Tryz.func125 cA cA
abbrev bEv:=enters Tryz.func126 cA cA
abbrev bEu:=enters Tryz.func127 cA cA
abbrev bMo:=enters Tryz.func128 cA cA
abbrev bMn:=enters Tryz.func129 cA cA
abbrev nR:=enters Im cA cA
abbrev TF:=enters Tryz.func131 cA cA
abbrev aWo:=enters Tryz.func132 cA cA
abbrev NW:=enters Tryz.func133 cA cA
abbrev TE:=enters Io cA cA
abbrev bMm:=enters Tryz.func135 cA cA
abbrev bMl:=enters Tryz.func136 cA cA
abbrev bMk:=enters Tryz.func138 cA cA
abbrev bEt:=enters Tryz.func139 cA cA
abbrev bMj:=enters Tryz.func140 cA cA
abbrev bMi:=enters Tryz.func141 cA cA
abbrev bMh:=enters Tryz.func142 cA cA
abbrev bMg:=enters Tryz.func143 cA cA
abbrev bMf:=enters Tryz.func144 cA cA
abbrev bMe:=enters Tryz.func145 cA cA
abbrev bMd:=enters Tryz.func146 cA cA
abbrev bMc:=enters Tryz.func147 cA cA
abbrev bMb:=enters Tryz.func148 cA cA
abbrev aWn:=enters Ip cA cA
abbrev aWm:=enters Tryz.func150 cA cA
abbrev aJj:=enters Tryz.func156 cA cA
abbrev bMa:=enters Tryz.func157 cA cA
abbrev aWl:=enters Iq cA cA
abbrev aWk:=enters Ir cA cA
abbrev aWj:=enters Tryz.func160 cA cA
abbrev aWi:=enters Iu cA cA
abbrev bLz:=enters Tryz.func162 cA cA
abbrev bLy:=enters Tryz.func163 cA cA
abbrev bLx:=enters Tryz.func165 cA cA
abbrev aWh:=enters Iw cA cA
abbrev aJi:=enters Tryz.func168 cA cA
abbrev aWg:=enters Tryz.func170 cA cA
abbrev aWf:=enters Tryz.func172 cA cA
abbrev bLw:=enters Tryz.func178 cA cA
abbrev bEs:=enters Tryz.func179 cA cA
abbrev bLv:=enters Tryz.func182 cA cA
abbrev bLu:=enters Tryz.func183 cA cA
abbrev bLt:=enters Tryz.func184 cA cA
abbrev bLs:=enters Tryz.func185 cA cA
abbrev bEr:=enters Tryz.func186 cA cA
abbrev bLr:=enters Tryz.func187 cA cA
abbrev bLq:=enters Tryz.func188 cA cA
abbrev bLp:=enters Tryz.func189 cA cA
abbrev bLo:=enters Tryz.func190 cA cA
abbrev bEq:=enters Iy cA cA
abbrev bEp:=enters Tryz.func197 cA cA
abbrev bLn:=enters Tryz.func198 cA cA
abbrev bLm:=enters Tryz.func199 cA cA
abbrev aWe:=enters Tryz.func200 cA cA
abbrev bEo:=enters Tryz.func201 cA cA
abbrev bEn:=enters Tryz.func202 cA cA
abbrev bEm:=enters Tryz.func203 cA cA
abbrev bLl:=enters Tryz.func204 cA cA
abbrev aWd:=enters Tryz.func205 cA cA
abbrev aWc:=enters Tryz.func206 cA cA
abbrev bLk:=enters Tryz.func209 cA cA
abbrev bLi:=enters Tryz.func210 cA cA
abbrev bLh:=enters Tryz.func211 cA cA
abbrev bLg:=enters Tryz.func212 cA cA
abbrev aWb:=enters Tryz.func213 cA cA
abbrev bLf:=enters Tryz.func214 cA cA
abbrev bLe:=enters Tryz.func215 cA cA
abbrev bLd:=enters Tryz.func216 cA cA
abbrev bLc:=enters Tryz.func217 cA cA
abbrev bLb:=enters Tryz.func218 cA cA
abbrev bLa:=enters Tryz.func219 cA cA
abbrev bKz:=enters Tryz.func220 cA cA
abbrev bKy:=enters Tryz.func221 cA cA
abbrev bKx:=enters Tryz.func227 cA cA
abbrev bKw:=enters Tryz.func228 cA cA
abbrev bKv:=enters Tryz.func229 cA cA
abbrev aWa:=enters Tryz.func231 cA cA
abbrev aVz:=enters Tryz.func232 cA cA
abbrev bKu:=enters Tryz.func233 cA cA
abbrev bKt:=enters Tryz.func237 cA cA
abbrev bKs:=enters Tryz.func238 cA cA
abbrev NV:=enters Tryz.func239 cA cA
abbrev bKr:=enters Tryz.func240 cA cA
abbrev bEl:=enters Tryz.func241 cA cA
abbrev bKq:=enters Tryz.func242 cA cA
abbrev bKp:=enters Tryz.func258 cA cA
abbrev aVy:=enters Tryz.func259 cA cA
abbrev bKo:=enters Tryz.func260 cA cA
abbrev bKn:=enters Tryz.func261 cA cA
abbrev bKm:=enters Tryz.func262 cA cA
abbrev bKl:=enters Tryz.func263 cA cA
abbrev aAz:=enters Tryz.func264 cA cA
abbrev bEk:=enters Tryz.func265 cA cA
abbrev bEj:=enters Tryz.func266 cA cA
abbrev bKk:=enters Tryz.func267 cA cA
abbrev bKj:=enters Tryz.func268 cA cA
abbrev bKi:=enters Tryz.func269 cA cA
abbrev bKh:=enters Tryz.func270 cA cA
abbrev bKg:=enters Tryz.func271 cA cA
abbrev bKf:=enters Tryz.func272 cA cA
abbrev bKe:=enters Tryz.func273 cA cA
abbrev bKd:=enters Tryz.func274 cA cA
abbrev bKc:=enters Tryz.func276 cA cA
abbrev bKb:=enters Tryz.func277 cA cA
abbrev aJh:=enters Tryz.func278 cA cA
abbrev aAy:=enters Tryz.func279 cA cA
abbrev aJg:=enters Tryz.func280 cA cA
abbrev bEi:=enters Tryz.func290 cA cA
abbrev bEh:=enters Tryz.func291 cA cA
abbrev bKa:=enters Tryz.func292 cA cA
abbrev TD:=enters Tryz.func293 cA cA
abbrev bJz:=enters Tryz.func294 cA cA
abbrev bEg:=enters Tryz.func295 cA cA
abbrev bJy:=enters Tryz.func296 cA cA
abbrev bJx:=enters Tryz.func297 cA cA
abbrev bJw:=enters Tryz.func298 cA cA
abbrev bJv:=enters Tryz.func299 cA cA
abbrev aVx:=enters Tryz.func300 cA cA
abbrev aVw:=enters Tryz.func301 cA cA
abbrev aVv:=enters Tryz.func302 cA cA
abbrev bEf:=enters Tryz.func313 cA cA
abbrev bEe:=enters Tryz.func314 cA cA
abbrev bEd:=enters Tryz.func315 cA cA
abbrev bJu:=enters Tryz.func316 cA cA
abbrev bEc:=enters Tryz.func317 cA cA
abbrev bEb:=enters Tryz.func318 cA cA
abbrev bJt:=enters Tryz.func319 cA cA
abbrev bJs:=enters Tryz.func320 cA cA
abbrev bEa:=enters Tryz.func321 cA cA
abbrev bJr:=enters Tryz.func322 cA cA
abbrev bJq:=enters Tryz.func323 cA cA
abbrev aAx:=enters Tryz.func324 cA cA
abbrev bJp:=enters Tryz.func325 cA cA
abbrev bJo:=enters Tryz.func326 cA cA
abbrev aAw:=enters Tryz.func327 cA cA
abbrev bJn:=enters Tryz.func344 cA cA
abbrev bJm:=enters Tryz.func345 cA cA
abbrev bJl:=enters Tryz.func346 cA cA
abbrev bDz:=enters Tryz.func347 cA cA
abbrev bJk:=enters Tryz.func361 cA cA
end Go.Proofs.YtdbebmmhdefgdaaGreat
namespace Go.Pure
open Go.Eng
variable {i k:Int} {u v:AH} {f:Nat}
def iG (a b:Int):Int:=if a<b then -1 else if b<a then 1 else 0
def cmpL:AH->AH->Int
 |[],[]=>0
 |[],_::_=> -1
 |_::_,[]=>1
 |a::s,b::t=>if a<b then -1 else if b<a then 1 else cmpL s t
theorem jE {l:AH} (h0:0<=i) (h:i<l.length):l.drop i.toNat=rd l i::l.drop (i+1).toNat:=by
 have hl:i.toNat<l.length:=G
 have e:(i+1).toNat=i.toNat+1:=G
 rw[e,ll hl];simp[rd,ai,av hl]
theorem qM (h0:0<=i) (hu:i<u.length) (hv:i<v.length):
  cmpL (u.drop i.toNat) (v.drop i.toNat)=if rd u i<rd v i then -1 else if rd v i<rd u i then 1 else cmpL (u.drop (i+1).toNat) (v.drop (i+1).toNat):=by
 rw[jE h0 hu,jE h0 hv];rfl
theorem uB (h0:0<=i) (hu:i<=u.length) (hv:i<=v.length) (h: ¬(i<u.length/\i<v.length)):
  cmpL (u.drop i.toNat) (v.drop i.toNat)=if (u.length:Int)<v.length then -1 else if (v.length:Int)<u.length then 1 else 0:=by
 have nil: ∀(l:AH) (j:Int),(l.length:Int)<=j->l.drop j.toNat=[]:=λl j h=>qd G;by_cases h1:i<u.length
 ·have h2:i=v.length:=G
  rw[jE h0 h1,nil v i G,df G,di G];rfl
 ·by_cases h2:i<v.length
  ·rw [jE h0 h2,nil u i G,di G];rfl
  ·rw [nil u i G,nil v i G,df G,df G];rfl
def OE (u v:AH):Nat->Int->Int
 |0,_=>0
 |f+1,k=>if rd u (k%u.length)<rd v (k%v.length) then -1 else if rd v (k%v.length)<rd u (k%u.length) then 1 else OE u v f (k+1)
def OG (u v:AH):Int:=
 if (u.length:Int)=0\/(v.length:Int)=0 then iG (min u.length 1) (min v.length 1) else OE u v (u.length+v.length) 0
theorem aOs (a b:Int):iG b a= -iG a b:=by unfold iG;split<;>split<;>omega
theorem TJ (h:rd u (k%u.length)=rd v (k%v.length)):OE u v (f+1) k=OE u v f (k+1):=by
 rw[OE,df G,df G]
theorem OD (hf:0<f) (h:iG (rd u (k%u.length)) (rd v (k%v.length))≠0):OE u v f k=iG (rd u (k%u.length)) (rd v (k%v.length)):=by
 obtain⟨f,rfl⟩: ∃g,f=g+1:=⟨f-1,G⟩;unfold OE iG at*;split
 ·rfl
 ·split
  ·rfl
  ·rename_i h1 h2;rw[df h1,df h2] at h;exact absurd rfl h
theorem bCk (hf:0<f) (h:iG (rd u (k%u.length)) (rd v (k%v.length))=0):OE u v f k=OE u v (f-1) (k+1):=by
 obtain⟨f,rfl⟩: ∃g,f=g+1:=⟨f-1,G⟩;refine TJ ?_;unfold iG at h;split at h
 ·omega
 ·split at h<;>omega
def rep (w:AH) (k:Int):AH:=(List.replicate k.toNat w).flatten
theorem oC (w:AH) (k:Int):(rep w k).length=k.toNat*w.length:=by
 unfold rep;rw[qc,List.map_replicate,List.sum_replicate_nat]
theorem aGa (u v:AH) (h:(u.length:Int)=0\/(v.length:Int)=0):cmpL (u.take (min (u.length:Int) 1).toNat) (v.take (min (v.length:Int) 1).toNat)=iG (min u.length 1) (min v.length 1):=by
 cases u with
 | nil=>cases v with
  |nil=>rfl
  |cons b t=>
   have e:(min (((b::t).length:Nat):Int) 1)=1:=by simp only[dn];omega
   rw[e];rfl
 | cons a s=>cases v with
  |nil=>
   have e:(min (((a::s).length:Nat):Int) 1)=1:=by simp only[dn];omega
   rw[e];rfl
  |cons b t=>simp only[dn] at h;omega
variable {u v:AH} {d N:Nat} {c:Int}
def om (u:AH) (i:Nat):Int:=u.getD (i%u.length) 0
theorem MX (u:AH) (k:Nat):rd u ((k:Int)%u.length)=om u k:=by
 unfold rd om;rw[<-zb,cz]
theorem pQ {i:Nat} (h:i<u.length):om u i=u.getD i 0:=by
 unfold om;rw[lh h]
def Per (W:Nat->Int) (d:Nat):Prop:= ∀i,W (i+d)=W i
theorem pX (u:AH):Per (om u) u.length:=by
 intro i;unfold om;rw[Gt]
theorem Per.mul {W:Nat->Int} (h:Per W d): ∀k,Per W (d*k)
 |0=>λi=>by rw[Nat.mul_zero,qp]
 |k+1=>λi=>by rw[Nat.mul_succ,<-mo,h,h.mul k]
theorem Per.mod {W:Nat->Int} (h:Per W d) (i:Nat):W (i%d)=W i:=by
 have:=h.mul (i/d) (i%d);rw[Nat.mod_add_div] at this;exact this.symm
theorem Per.gcd {W:Nat->Int} (a b:Nat):Per W a->Per W b->Per W (Nat.gcd a b):=by
 induction a,b using Nat.gcd.induction with
 |H0 n=>intro _ h;rw[Nat.gcd_zero_left];exact h
 |H1 m n hm ih=>
  intro h1 h2;rw[Nat.gcd_rec];refine ih ?_ h1;intro i;have e:=h1.mul (n/m) (i+n%m);rw[mo,Nat.mod_add_div] at e;rw[<-e];exact h2 i
theorem agree {U V:Nat->Int} {p q:Nat} (hp:0<p) (hq:0<q) (hU:Per U p) (hV:Per V q) (h: ∀i,i<p+q->U i=V i): ∀i,U i=V i:=by
 intro i
 induction i using Nat.strongRecOn with
 | _ i ih=>
  by_cases hi:i<p+q
  ·exact h i hi
  ·have e1:U i=U (i-p):=by have:=hU (i-p);rw[rq G] at this;exact this
   have e2:V (i-p)=V (i-p-q):=by have:=hV (i-p-q);rw[rq G] at this;exact this
   have e3:U (i-q)=U (i-p-q):=by have:=hU (i-p-q);rw[show i-p-q+p=i-q by omega] at this;exact this
   have e4:V i=V (i-q):=by have:=hV (i-q);rw[rq G] at this;exact this
   rw[e1,ih (i-p) G,e2,<-ih (i-p-q) G,<-e3,ih (i-q) G,<-e4]
def FD (U V:Nat->Int) (N:Nat) (c:Int):Prop:=(c=0/\ ∀i,i<N->U i=V i)\/ ∃k,k<N/\(∀i,i<k->U i=V i)/\U k≠V k/\c=iG (U k) (V k)
theorem kJ {a b:Int}:iG a b=0↔a=b:=by unfold iG;split<;>(try split)<;>omega
theorem FD.uniq {U V:Nat->Int} {M:Nat} {d:Int} (h:FD U V N c) (h':FD U V M d) (hc:c=0-> ∀i,i<M->U i=V i) (hd:d=0-> ∀i,i<N->U i=V i):c=d:=by
 rcases h with⟨rfl,h⟩|⟨k,hk,h,hn,e⟩
 ·rcases h' with⟨rfl,_⟩|⟨k',ov,_,Wb,e'⟩
  ·rfl
  ·exact absurd (hc rfl k' ov) Wb
 ·rcases h' with⟨rfl,h'⟩|⟨k',ov,h',Wb,e'⟩
  ·exact absurd (hd rfl k hk) hn
  ·have:k=k':=by
    by_cases h1:k<k'
    ·exact absurd (h' k h1) hn
    ·by_cases h2:k'<k
     ·exact absurd (h k' h2) Wb
     ·omega
   subst this;rw[e,e']
theorem FD.step {U V:Nat->Int} (h0:U 0=V 0) (h:FD (λi=>U (i+1)) (λi=>V (i+1)) N c):FD U V (N+1) c:=by
 rcases h with⟨rfl,h⟩|⟨k,hk,h,hn,e⟩
 ·refine .inl ⟨rfl,λi hi=> ?_⟩;cases i with
  |zero=>exact h0
  |succ i=>exact h i G
 ·refine .inr ⟨k+1,G,λi hi=> ?_,hn,e⟩;cases i with
  |zero=>exact h0
  |succ i=>exact h i G
theorem aJq (u v:AH): ∀(f k:Nat),FD (λi=>om u (i+k)) (λi=>om v (i+k)) f (OE u v f k)
 |0,_=> .inl ⟨rfl,λi hi=>G⟩
 | f+1,k=>by
  by_cases h:om u k=om v k
  ·rw [TJ (by rw[MX,MX];exact h)];have ih:=aJq u v f (k+1);refine FD.step (by simpa using h) ?_;have e:((k+1:Nat):Int)=(k:Int)+1:=G
   rw[<-e];simpa [mo,um 1 k] using ih
  ·refine .inr ⟨0,G,λi hi=>G,by simpa using h,?_⟩;rw[OD G (by rw[MX,MX];exact λe=>h (kJ.1 e)),MX,MX];simp
theorem aJr (hu:0<u.length) (hv:0<v.length):FD (om u) (om v) (u.length+v.length) (OG u v):=by
 unfold OG;rw[df G];have:=aJq u v (u.length+v.length) 0;simpa using this
def Lt (U V:Nat->Int):Prop:= ∃k,(∀i,i<k->U i=V i)/\U k<V k
theorem Lt.trans {U V W:Nat->Int} (h:Lt U V) (h':Lt V W):Lt U W:=by
 obtain⟨k,h,hk⟩:=h;obtain⟨m,h',hm⟩:=h';by_cases h1:k<m
 ·exact⟨k,λi hi=>by rw[h i hi,h' i G],by rw[<-h' k h1];exact hk⟩
 ·by_cases h2:m<k
  ·exact⟨m,λi hi=>by rw[h i G,h' i hi],by rw[h m h2];exact hm⟩
  ·have:k=m:=G
   subst this;exact⟨k,λi hi=>by rw[h i hi,h' i hi],G⟩
theorem aXc (hu:0<u.length) (hv:0<v.length):OG u v<0↔Lt (om u) (om v):=by
 constructor
 ·intro h;rcases aJr hu hv with⟨e,_⟩|⟨k,_,hk,hn,e⟩
  ·omega
  ·refine ⟨k,hk,?_⟩;rw[e] at h;unfold iG at h;split at h
   ·assumption
   ·split at h<;>omega
 ·rintro ⟨k,hk,bp⟩;rcases aJr hu hv with⟨e,h⟩|⟨m,_,hm,hn,e⟩
  ·have:=agree hu hv (pX u) (pX v) h k;omega
  ·have:k=m:=by
    by_cases h1:k<m
    ·have:=hm k h1;omega
    ·by_cases h2:m<k
     ·exact absurd (hk m h2) hn
     ·omega
   subst this;rw[e];unfold iG;rw[di bp];decide
theorem LY (w:AH): ∀(k i:Nat),i<k*w.length->(rep w k).getD i 0=om w i
 |0,i,h=>G
 | k+1,i,h=>by
  have e:((k+1:Nat):Int)=1+(k:Int):=G
  have e2:rep w ((k+1:Nat):Int)=w++rep w k:=by
   unfold rep;rw[show((k+1:Nat):Int).toNat=k+1 by omega,List.replicate_succ];simp
  rw[e2];by_cases hi:i<w.length
  ·rw[pQ hi,ai,ai,jl hi]
  ·rw [ai,ji G,<-ai,LY w k (i-w.length) (by rw[xz] at h;omega)];have:=pX w (i-w.length);rw[rq G] at this;exact this.symm
variable {u:AH} {f p:Nat}
def lpF (u:AH):Nat->Int->Int
 |0,_=>0
 |f+1,p=>if u.drop p.toNat=u.take ((u.length:Int)-p).toNat then p else lpF u f (p+1)
def lp (u:AH):Int:=lpF u u.length 1
theorem aIn {p:Int} (hf:0<f) (h:u.drop p.toNat=u.take ((u.length:Int)-p).toNat):lpF u f p=p:=by
 obtain⟨f,rfl⟩: ∃g,f=g+1:=⟨f-1,G⟩;rw[lpF,di h]
theorem aTy {p:Int} (hf:0<f) (h: ¬u.drop p.toNat=u.take ((u.length:Int)-p).toNat):lpF u f p=lpF u (f-1) (p+1):=by
 obtain⟨f,rfl⟩: ∃g,f=g+1:=⟨f-1,G⟩;rw[lpF,df h];rfl
def PH (u:AH) (p:Nat):Prop:=u.drop p=u.take (u.length-p)
theorem MR:PH u p↔ ∀i,i+p<u.length->u.getD (i+p) 0=u.getD i 0:=by
 constructor
 ·intro h i hi;have:=bu (λl=>l.getD i 0) h;simp only[ai,qz,ou] at this;rw[di G] at this;rw[ai,ai,um];exact this
 ·intro h;refine vg cD λi h1 h2=> ?_;simp only[az] at h1;have:=h i G;simp only[ai] at this;rw[av G,av G] at this;simp only[oz] at this;rw[zx,xq,<-this];simp only[um]
theorem ZU (u:AH): ∀(f:Nat) (p:Nat),1<=p->p+f=u.length+1->p<=u.length-> ∃r:Nat,lpF u f p=r/\p<=r/\r<=u.length/\PH u r/\ ∀q,p<=q->q<r-> ¬PH u q
 |0,p,_,h2,h3=>G
 | f +1,p,h1,h2,h3=>by
  have e:((u.length:Int)-(p:Int)).toNat=u.length-p:=G
  by_cases h:PH u p
  ·refine ⟨p,aIn G ?_,dx _,h3,h,λq a b=>G⟩;rw[cz,e];exact h
  ·rw [aTy G (by rw[cz,e];exact h)]
   have bp:p<u.length:=by
    rcases gm p u.length with h'|h'
    ·exact h'
    ·have:p=u.length:=G
     subst this;exact absurd (by unfold PH;simp) h
   obtain⟨r,hr,h4,h5,h6,h7⟩:=ZU u f (p+1) G G G;refine⟨r,?_,G,h5,h6,λq a b=> ?_⟩
   ·rw[<-hr];rfl
   ·by_cases hq:q=p
    ·subst hq;exact h
    ·exact h7 q G b
theorem JX (h:0<u.length): ∃r:Nat,lp u=r/\1<=r/\r<=u.length/\PH u r/\ ∀q,1<=q->q<r-> ¬PH u q:=
 ZU u u.length 1 (dx 1) G h
def rl (u:AH):Int:=if (u.length:Int)%lp u≠0 then u.length else lp u
theorem ZE (hp:0<p) (h:PH u p): ∀i,i<u.length->u.getD i 0=u.getD (i%p) 0:=by
 intro i
 induction i using Nat.strongRecOn with
 | _ i ih=>
  intro hi;by_cases bp:i<p
  ·rw[lh bp]
  ·have:=MR.1 h (i-p) G;rw[rq G] at this;rw[this,ih (i-p) G G,<-zi G]
theorem aIl (hp:0<p) (hn:p<=u.length) (i:Nat):om (u.take p) i=u.getD (i%p) 0:=by
 unfold om;rw[ax,zo hn];simp only[ai];rw[ou,di (yh _ hp)]
theorem bAl (hp:0<p) (hn:p<=u.length) (hd:p∣u.length) (h:PH u p) (i:Nat):om u i=om (u.take p) i:=by
 rw[aIl hp hn];unfold om;rw[ZE hp h _ (yh _ G),Nat.mod_mod_of_dvd _ hd]
theorem aIi {d:Nat} (h:Per (om u) d):PH u d:=by
 refine MR.2 λi hi=> ?_;rw[<-pQ hi,<-pQ (by omega:i<u.length)];exact h i
theorem VB (h:0<u.length): ∃r:Nat,rl u=r/\1<=r/\r<=u.length/\(∀i,om u i=om (u.take r) i)/\ ∀d,1<=d->Per (om u) d->r<=d:=by
 obtain⟨p,hp,h1,h2,h3,h4⟩:=JX h
 have key: ∀d,1<=d->Per (om u) d->d<u.length->p∣u.length/\p<=d:=by
  intro d hd nb bp;have hg:Per (om u) (Nat.gcd d u.length):=Per.gcd _ _ nb (pX u);have g1:Nat.gcd d u.length∣u.length:=Nat.gcd_dvd_right _ _;have g2:Nat.gcd d u.length<=d:=Nat.le_of_dvd G (Nat.gcd_dvd_left _ _);have g3:0<Nat.gcd d u.length:=Nat.gcd_pos_of_pos_left _ G;generalize Nat.gcd d u.length=g at*
  have p1:p<=g:=by
   rcases gm g p with a|a
   ·exact absurd (aIi hg) (h4 g g3 a)
   ·exact a
  have g4:2*g<=u.length:=by
   obtain⟨k,hk⟩:=g1
   have:2<=k:=by
    rcases gm k 2 with a|a
    ·have:k=0\/k=1:=G
     rcases this with rfl|rfl<;>omega
    ·exact a
   rw[hk]
   calc 2*g<=k*g:=ut _ this
    _=g*k:=zy _ _
  have ag: ∀i,om (u.take p) i=om u i:=by
   refine agree (p:=p) (q:=g) G g3 ?_ hg λi hi=> ?_
   ·have:=pX (u.take p);rwa[ax,zo h2] at this
   ·rw[aIl G h2,pQ G,<-ZE G h3 i G]
  have pp:Per (om u) p:=by
   intro i;rw[<-ag,<-ag];have:=pX (u.take p) i;rwa[ax,zo h2] at this
  have hh:Per (om u) (Nat.gcd p u.length):=Per.gcd _ _ pp (pX u);have e1:Nat.gcd p u.length∣p:=Nat.gcd_dvd_left _ _;have e2:Nat.gcd p u.length∣u.length:=Nat.gcd_dvd_right _ _;have e3:0<Nat.gcd p u.length:=Nat.gcd_pos_of_pos_left _ G;have e4:=Nat.le_of_dvd G e1
  have e5:p<=Nat.gcd p u.length:=by
   rcases gm (Nat.gcd p u.length) p with a|a
   ·exact absurd (aIi hh) (h4 _ e3 a)
   ·exact a
  have e6:Nat.gcd p u.length=p:=G
  rw[e6] at e2;exact⟨e2,G⟩
 by_cases hd:p∣u.length
 ·refine ⟨p,?_,h1,h2,bAl G h2 hd h3,λd a b=> ?_⟩
  ·unfold rl;rw[hp,df]
   ·intro hn;refine hn ?_;rw[<-zb,Nat.mod_eq_zero_of_dvd hd];rfl
  ·rcases gm d u.length with c|c
   ·exact(key d a b c).2
   ·omega
 ·refine ⟨u.length,?_,G,dx _,λi=>by rw[ow],λd a b=> ?_⟩
  ·unfold rl;rw[hp,di];intro hz;rw[<-zb] at hz;exact hd (Nat.dvd_of_mod_eq_zero G)
  ·rcases gm d u.length with c|c
   ·exact absurd (key d a b c).1 hd
   ·exact c
theorem pK (h:0<u.length):1<=rl u/\rl u<=u.length:=by
 obtain⟨r,e,h1,h2,_⟩:=VB h;omega
theorem NL (h:0<u.length):1<=lp u/\lp u<=u.length:=by
 obtain⟨r,e,h1,h2,_⟩:=JX h;omega
theorem aTk {a:Nat} (hu:0<u.length) (ha:0<a) (i:Nat):om (rep u a) i=om u i:=by
 have l:(rep u a).length=a*u.length:=by rw[oC,cz]
 have hp:0<a*u.length:=Gv ha hu;have hm:i%(a*u.length)<a*u.length:=yh _ hp;have e:om (rep u a) i=(rep u a).getD (i%(rep u a).length) 0:=rfl;rw[e,l,LY u a _ hm];unfold om;rw[Nat.mod_mod_of_dvd _ (Nat.dvd_mul_left _ _)]
end Go.Pure
namespace Go.Eng
open Go Go.RowKit
variable {w:World}
theorem aZu (k:IntKind):Rd w none ([]:AH).length 0 1 (ints k []):=⟨rfl,cD,cD,λj v hv=>by simp[ints] at hv⟩
theorem aZt {k:IntKind} {x:Addr} {len cap:Nat} {zs:AH} (hl:len<=cap) (hm:cap<=maxLen) (hz:zs.length=cap) (vd: ∀i,i<zs.length->w.cell? (x.add i)=some (.int k (zs.getD i 0))) (hwz: ∀n∈zs,(Lit.int k n).wf=true):
  ∃l:AH,len=l.length/\Rd w (some x) l.length cap 1 (ints k l)/\ ∀n∈l,(Lit.int k n).wf=true:=by
 unfold maxLen at hm;have hlen:(zs.take len).length=len:=by rw[ax];omega
 refine⟨zs.take len,hlen.symm,⟨by rw[bX];omega,G,G,λj v hv=>⟨x,rfl,?_⟩⟩,λn hn=>hwz n (lc hn)⟩
 have hj:j<len:=by
  rcases gm j len with h|h
  ·exact h
  ·rw[lu (by rw[bX];omega)] at hv;cases hv
 rw[vd j G];have hjz:j<zs.length:=G
 simp[ints,hj,av hjz] at hv;subst hv;simp[ai,av hjz]
theorem byteL_wf {l:AH} (h: ∀x∈l,(Lit.int .u8 x).wf=true):aN l:=λx hx=>by
 have:=h x hx;have:=bounds_u8 this;omega
end Go.Eng
namespace Go.Eng
open Go
section
variable {P:Program} {n:Nd} {B:Nat} {w0:World} {L:Env} {R:List Row} {ty:TypeId}
theorem EN (g j:Nat):(⟨g,0,none⟩:Addr).add j=⟨g,j,none⟩:=by unfold Addr.add;split<;>simp_all
theorem Hp.cellAt {w:World} (h:Hp B w0 w R) (i:Nat) {r:Row} {g j:Nat} {v:Value} (hi:R[i]? =some r) (hA:r.A=some ⟨g,0,none⟩) (hv:r.xs[j]? =some v):w.cell? ⟨g,j,none⟩=some v:=by
 obtain⟨a,ha,hc⟩:=(Row.rd (h.own r (gu hi))).cell hv;rw[hA] at ha;simp only[pat,kv,mr] at ha;rw[EN] at ha;rw[ha];exact hc
theorem Hp.openAt {w:World} (h:Hp B w0 w R) (i:Nat) {r:Row} {g:Nat} (j:Nat) (hi:R[i]? =some r) (nc:r.ro=false) (hA:r.A=some ⟨g,0,none⟩):w.frozen? ⟨g,j,none⟩=false:=by
 have hw:=Row.lies_w (h.own r (gu hi)) nc;rcases hw.2 with⟨hn,_⟩|⟨g',cap,cur,hs,hb,hg,_⟩
 ·rw[hA] at hn;cases hn
 ·rw [hA] at hs;simp only[ku,mr,Az,Aj,Ak] at hs;obtain⟨rfl,rfl⟩:=hs;unfold World.frozen?;simp[hg]
theorem XV {α:Type} (l:List α) (j k:Nat) (v:α):(l.set j v).take k=(l.take k).set j v:=by
 apply ul;intro i;simp only[ou,xm,ax];by_cases h1:i<k
 ·by_cases h2:j=i
  ·subst h2;have e:(j<min k l.length)=(j<l.length):=by rw[eq_iff_iff];omega
   simp[h1,e]
  ·simp[h1,h2]
 ·by_cases h2:j=i
  ·subst h2;have e: ¬j<min k l.length:=G
   simp[h1,e]
  ·simp[h1,h2]
theorem Hp.set1 {w:World} (h:Hp B w0 w R) (i:Nat) {r:Row} {g j:Nat} {v:Value} (hi:R[i]? =some r) (nc:r.ro=false) (hA:r.A=some ⟨g,0,none⟩):Hp B w0 (w.setCell ⟨g,j,none⟩ v) (R.set i {r with xs:=r.xs.set j v}):=by
 have hw:=Row.lies_w (h.own r (gu hi)) nc;rcases hw.2 with⟨hn,_⟩|⟨g',cap,cur,hs,hb,hg,hnc,tc,ke,ht⟩
 ·rw[hA] at hn;cases hn
 ·rw [hA] at hs;simp only[ku,mr,Az,Aj,Ak] at hs;obtain⟨rfl,rfl⟩:=hs;have bp:g<w.heap.size:=(gp.1 hg).1;have Qr:w.heap[g]= .cells cur r.e (0,0):=(gp.1 hg).2
  have Vu:(w.setCell ⟨g,j,none⟩ v).heap[g]? =some (.cells (cur.setIfInBounds j v) r.e (0,0)):=by
   simp[World.setCell,bp,Array.getElem_modify,Qr]
  refine h.upd hi (row:=some g) ⟨rfl,rfl,rfl,by simp[World.setCell],λk _ hk=> ?_⟩ (dx _) (λk hk=> ?_) ?_ (λa' np=> .inl ⟨a',np,rfl⟩)
  ·have: ¬g=k:=λe=>hk (by simp[e]);simp[World.setCell,vw,this]
  ·obtain rfl:=je hk;exact⟨_,hA,rfl⟩
  ·unfold Row.lies;simp only[nc];refine⟨by simpa using hw.1, .inr ⟨g,r.c,_,by rw[hA],hb,Vu,hnc,tc,by simpa using ke,?_⟩⟩;rw[Array.toList_setIfInBounds,XV,ht]
theorem aKd {f:FuncId} {w6:List Operand} {ts:Array TypeId} {vs:AG} {v:Value} {R1:List Row} (ha:evs L w6=some vs) (hc: ∀w,Hp B w0 w R-> ∃w',(callFunc f vs.toArray).run P w= .ok (.value v) w'/\Hp B w0 w' R1):
  Ac P n B w0 (.call {callee:= .value (.func f),args:=w6.toArray,argTypes:=ts}) ty L R (λu R'=>u=v/\R'=R1):=by
 intro a w o K Q ho _ hs hp hk;have e1:=hs.evs ha;obtain⟨w',hr,da⟩:=hc w hp;have hf:ev L (.func f)=some (.func (.func f) #[] #[]):=rfl;unfold Oper.wp;simp only[execOp,ho,resolve,hs.ev hf,Deferred.ofValue,invoke,jq,ng,jm,uf,e1,ui,jd,jh,hr,Oper.upon];exact hk _ _ _ da ⟨rfl,rfl⟩
end
def bv (x:BitVec 32):Int:=(x.toNat:Int)
theorem AZ (m:Nat) (h:m<4294967296):IntKind.u32.wrap (m:Int)=m:=by
 rw[IntKind.wrap_u32];omega
theorem rA (x:BitVec 32):BitVec.ofInt 32 (bv x)=x:=by
 apply BitVec.eq_of_toNat_eq;unfold bv;have:=x.isLt;simp
theorem aXj {x y:BitVec 32} (h:bv x=bv y):x=y:=by
 have:=bu (BitVec.ofInt 32) h;rwa[rA,rA] at this
theorem aYk (p:Int):IntKind.u32.wrap p=bv (BitVec.ofInt 32 p):=by
 rw[IntKind.wrap_u32];unfold bv;rw[zf];omega
section
variable {P:Program} {n:Nd} {B:Nat} {w0:World} {L:Env} {R:List Row} {ty:TypeId}
theorem aZf (p q:BitVec 32) (w:World):(Op.intBits .and .u32 (bv p) (bv q)).run P w= .ok (.int .u32 (bv (p &&& q))) w:=by
 show Result.ok (Value.int .u32 (IntKind.u32.wrap ((BitVec.ofInt 32 (bv p) &&& BitVec.ofInt 32 (bv q)).toNat:Int))) w=_;rw[rA,rA,AZ _ (BitVec.isLt _)];rfl
theorem aHt (p q:BitVec 32) (w:World):(Op.intBits .xor .u32 (bv p) (bv q)).run P w= .ok (.int .u32 (bv (p^^^q))) w:=by
 show Result.ok (Value.int .u32 (IntKind.u32.wrap ((BitVec.ofInt 32 (bv p)^^^BitVec.ofInt 32 (bv q)).toNat:Int))) w=_;rw[rA,rA,AZ _ (BitVec.isLt _)];rfl
theorem aQz (p q:Int) (w:World):(Op.intBits .xor .u8 p q).run P w= .ok (.int .u8 ((BitVec.ofInt 8 p^^^BitVec.ofInt 8 q).toNat:Int)) w:=by
 show Result.ok (Value.int .u8 (IntKind.u8.wrap ((BitVec.ofInt 8 p^^^BitVec.ofInt 8 q).toNat:Int))) w=_
 have e3:IntKind.u8.wrap ((BitVec.ofInt 8 p^^^BitVec.ofInt 8 q).toNat:Int)=((BitVec.ofInt 8 p^^^BitVec.ofInt 8 q).toNat:Int):=by
  rw[Ch];have:=(BitVec.ofInt 8 p^^^BitVec.ofInt 8 q).isLt;omega
 rw[e3]
theorem aZc (p:BitVec 32) (j:IntKind) (k:Nat) (hk:k<=32) (w:World):(Op.shift .shr .u32 (bv p) j (k:Int)).run P w= .ok (.int .u32 (bv (p>>>k))) w:=by
 have hn: ¬((k:Int)<0):=G
 have hm:min (k:Int).toNat (IntKind.bits .u32)=k:=by
  have:IntKind.bits .u32=32:=rfl;omega
 have he:Int.fdiv (bv p) (2^k)=bv (p>>>k):=by
  unfold bv;rw[BitVec.toNat_ushiftRight,Nat.shiftRight_eq_div_pow,Bf _ (by exact vz G)];simp
 unfold Op.shift;rw[df hn];simp only[hm,ng];rw[he]
theorem aCq {x y:Operand} {t u:TypeId} {p q:BitVec 32} (hx:ev L x=some (.int .u32 (bv p))) (hy:ev L y=some (.int .u32 (bv q))):Yl P n B w0 (.binOp .and t x y u) ty L R (.int .u32 (bv (p &&& q))):=by
 intro a w o ho _ hs _;simp[execOp,ho,binOp,eqGuard,hs.ev hx,hs.ev hy,aZf]
theorem ES {x y:Operand} {t u:TypeId} {p q:BitVec 32} (hx:ev L x=some (.int .u32 (bv p))) (hy:ev L y=some (.int .u32 (bv q))):Yl P n B w0 (.binOp .xor t x y u) ty L R (.int .u32 (bv (p^^^q))):=by
 intro a w o ho _ hs _;simp[execOp,ho,binOp,eqGuard,hs.ev hx,hs.ev hy,aHt]
theorem KF {x y:Operand} {t u:TypeId} {p:BitVec 32} {j:IntKind} {k:Nat} (hx:ev L x=some (.int .u32 (bv p))) (hy:ev L y=some (.int j (k:Int))) (hk:Nat.ble k 32=true):Yl P n B w0 (.binOp .shr t x y u) ty L R (.int .u32 (bv (p>>>k))):=by
 intro a w o ho _ hs _;simp[execOp,ho,binOp,eqGuard,hs.ev hx,hs.ev hy,aZc p j k (ak hk)]
theorem bFf {x:Operand} {t:TypeId} {p:BitVec 32} (hx:ev L x=some (.int .u32 (bv p))):Yl P n B w0 (.unOp .xor t x) ty L R (.int .u32 (bv (4294967295#32^^^p))):=by
 intro a w o ho _ hs _;have e2:(if IntKind.u32.signed=true then(-1:Int) else IntKind.u32.max)=bv 4294967295#32:=rfl;simp[execOp,ho,hs.ev hx,Op.unary,e2,aHt]
theorem UF {x:Operand} {s d:TypeId} {j:IntKind} {p:Int} {td:TypeDesc} (fj:P.underlying s=some td) (hd:P.underlying d=some (.int .u32)) (hx:ev L x=some (.int j p)):Yl P n B w0 (.convert s d x) ty L R (.int .u32 (bv (BitVec.ofInt 32 p))):=by
 have:=mV (P:=P) (n:=n) (B:=B) (w0:=w0) (R:=R) (ty:=ty) fj hd hx;rwa[aYk] at this
theorem bDm {x y:Operand} {t u:TypeId} {p q:BitVec 32} (hx:ev L x=some (.int .u32 (bv p))) (hy:ev L y=some (.int .u32 (bv q))):Yl P n B w0 (.binOp .eql t x y u) ty L R (.bool (decide (p=q))):=by
 have:=fD (P:=P) (n:=n) (B:=B) (w0:=w0) (R:=R) (ty:=ty) (t:=t) (u:=u) hx hy
 have e:(decide (bv p=bv q))=decide (p=q):=by
  rw[sj];exact⟨aXj,λh=>by rw[h]⟩
 rwa[e] at this
theorem aPq {x y:Operand} {t u:TypeId} {p q:BitVec 32} (hx:ev L x=some (.int .u32 (bv p))) (hy:ev L y=some (.int .u32 (bv q))):Yl P n B w0 (.binOp .neq t x y u) ty L R (.bool (decide (p≠q))):=by
 have:=jP (P:=P) (n:=n) (B:=B) (w0:=w0) (R:=R) (ty:=ty) (t:=t) (u:=u) hx hy
 have e:(decide (bv p≠bv q))=decide (p≠q):=by
  rw[sj];exact⟨λh e=>h (by rw[e]),λh e=>h (aXj e)⟩
 rwa[e] at this
theorem bFc {x y:Operand} {t u:TypeId} {p q:Int} (hx:ev L x=some (.int .u8 p)) (hy:ev L y=some (.int .u8 q)):Yl P n B w0 (.binOp .xor t x y u) ty L R (.int .u8 ((BitVec.ofInt 8 p^^^BitVec.ofInt 8 q).toNat:Int)):=by
 intro a w o ho _ hs _;simp only[execOp,ho,binOp,eqGuard,hs.ev hx,hs.ev hy];simp[aQz]
theorem UT (k:Nat) (t d:TypeId) (p:AF) (ht:P.underlying t=some (.pointer d)) (w:World):(Op.equalIn (k+1) t (.pointer p) (.pointer none)).run P w= .ok p.isNone w:=by
 cases p<;>simp[Op.equalIn,mh ht,samePointer]
theorem LM (t d:TypeId) (p:AF) (ht:P.underlying t=some (.pointer d)) (w:World):(Op.equal t (.pointer p) (.pointer none)).run P w= .ok p.isNone w:=by
 exact UT 9999 t d p ht w
theorem aKj {x:Operand} {t tf:TypeId} {fs:Array Field} {k st g j off m:Nat} (hu:P.underlying t=some (.struct fs)) (hf:(fs[k]?).map (λf=>(f.offset,f.type))=some (off,tf)) (ge:(P.info? tf).map (·.size)=some st) (Mq:Nat.blt 0 st=true) (hx:ev L x=some (.pointer (some ⟨g,j,none⟩))) (hm:j+off=m):
  Yl P n B w0 (.fieldAddr t x k) ty L R (.pointer (some ⟨g,m,none⟩)):=by
 obtain⟨f,hf',he⟩:=iw.1 hf;simp only[Ad] at he;obtain⟨rfl,rfl⟩:=he;have:=XH (P:=P) (n:=n) (B:=B) (w0:=w0) (R:=R) (ty:=ty) hu hf' ge Mq hx
 have e:(⟨g,j,none⟩:Addr).add f.offset=⟨g,m,none⟩:=by
  rw[<-hm];unfold Addr.add;split<;>simp_all
 rwa[e] at this
theorem QH {x ix:Operand} {t e:TypeId} {k:IntKind} {g m N:Nat} {i:Int} {r:Row} (q:Nat) (hq:R[q]? =some r) (hA:r.A=some ⟨g,0,none⟩) (ht:P.underlying t=some (.array N e)) (hi:(P.info? e).map (·.size)=some 1) (hx:ev L x=some (.pointer (some ⟨g,m,none⟩))) (se:ev L ix=some (.int k i)) (bp:m<r.xs.length) (h0:0<=i) (h1:i<N):
  Yl P n B w0 (.indexAddr t x ix) ty L R (.pointer (some ⟨g,m+i.toNat,none⟩)):=by
 have Lk:(some ⟨g,m,none⟩:AF)=pat (some ⟨g,0,none⟩) m:=by
  simp only[pat,kv,EN]
 have:=zI (P:=P) (n:=n) (B:=B) (w0:=w0) (ty:=ty) ht hi hx Lk se (hA▸rdR q hq) bp h0 h1;rw[qf] at this;simpa only[pat,kv,EN] using this
theorem bFg {x:Operand} {t:TypeId} {d:TypeDesc} {g j:Nat} {v:Value} {r:Row} (q:Nat) (hq:R[q]? =some r) (hA:r.A=some ⟨g,0,none⟩) (hu:P.underlying t=some d) (hd:GX d=false) (hx:ev L x=some (.pointer (some ⟨g,j,none⟩))) (hv:r.xs[j]? =some v):
  Yl P n B w0 (.load t x) ty L R v:=by
 have Lk:(some ⟨g,j,none⟩:AF)=pat (some ⟨g,0,none⟩) j:=by
  simp only[pat,kv,EN]
 exact lC hu hd hx Lk (hA▸rdR q hq) hv
theorem bE {x y:Operand} {t:TypeId} {j:Nat} {r:Row} {v:Value} {g:Nat} (q:Nat) (hq:R[q]? =some r) (nc:r.ro=false) (hA:r.A=some ⟨g,0,none⟩) (ge:(P.info? t).map (·.size)=some 1) (hx:ev L x=some (.pointer (some ⟨g,j,none⟩))) (hy:ev L y=some v) (hv:v.cells.toList=[v]) (h1:v.oneCell'=true) (hj:j<r.xs.length):
  Ac P n B w0 (.store t x y) ty L R (λ_ R'=>R'=R.set q {r with xs:=r.xs.set j v}):=
 WU q hq nc hA ge hx (by simp only[pat,hA,kv,EN]) hy hv h1 hj
theorem aPw {t:TypeId} {v:Value} (h: ∀w,(Instr.build t #[]).run P w= .ok v w):Yl P n B w0 (.build t #[]) ty L R v:=by
 intro a w o ho _ hs _;simp[execOp,ho,h]
theorem MP {r0 r1:Row}: ∀ {R:List Row} {i:Nat},R[i]? =some r0->(r1::R.eraseIdx i).Perm (R.set i r1)
 |[],i,h=>by simp at h
 |q::R,0,_=> .refl _
 |q::R,i+1,h=>by
  have ih:(r1::R.eraseIdx i).Perm (R.set i r1):=MP (by simpa using h);exact(List.Perm.swap q r1 _).trans (ih.cons q)
theorem Ct.at {f:FuncId} {args:Array Value} {r0 r1:Row} {V:Value} (i:Nat) (hi:R[i]? =some r0) (h:Ct P f args B w0 (r0::R.eraseIdx i) (λv R'=>v=V/\R'=r1::R.eraseIdx i)):Ct P f args B w0 R (λv R'=>v=V/\R'=R.set i r1):=by
 intro w hw
 have Mx:Hp B w0 w (r0::R.eraseIdx i):=by
  have hp:=MP (r1:=r0) hi;have bp:i<R.length:=(fw.1 hi).1
  have e:R.set i r0=R:=by
   rw[<-(fw.1 hi).2];exact List.set_getElem_self bp
  rw[e] at hp;exact hw.perm hp.symm
 refine(h w Mx).mono ?_;rintro e w' ⟨v,R',rfl,hh,rfl,rfl⟩;exact⟨_,_,rfl,hh.perm (MP hi),rfl,rfl⟩
theorem kZ {x y:Operand} {t u d:TypeId} {p:AF} (ht:P.underlying t=some (.pointer d)) (hx:ev L x=some (.pointer p)) (hy:ev L y=some (.pointer none)):Yl P n B w0 (.binOp .eql t x y u) ty L R (.bool p.isNone):=by
 intro a w o ho _ hs _;simp[execOp,ho,binOp,eqGuard,hs.ev hx,hs.ev hy,LM t d p ht]
theorem aYj {x y:Operand} {t u d:TypeId} {p:AF} (ht:P.underlying t=some (.pointer d)) (hx:ev L x=some (.pointer p)) (hy:ev L y=some (.pointer none)):Yl P n B w0 (.binOp .neq t x y u) ty L R (.bool (!p.isNone)):=by
 intro a w o ho _ hs _;simp[execOp,ho,binOp,eqGuard,hs.ev hx,hs.ev hy,LM t d p ht]
end
end Go.Eng
namespace Go.Eng
open Go Go.RowKit
def rdl (ls:AD) (i:Int):AH:=ls.getD i.toNat []
theorem aSj {ls:AD} {i:Int} (h0:0<=i) (h:i<ls.length):ls.drop i.toNat=rdl ls i::ls.drop (i+1).toNat:=by
 have hl:i.toNat<ls.length:=G
 have e:(i+1).toNat=i.toNat+1:=G
 rw[e,ll hl];simp[rdl,ai,av hl]
theorem aZr {ls:AD} {i:Int} (h0:0<=i) (h:i<ls.length):rdl ls i∈ls:=by
 have hl:i.toNat<ls.length:=G
 simp[rdl,ai,av hl]
def SlW (k:IntKind) (w:World) (vals:AG) (ls:AD):Prop:=vals.length=ls.length/\ ∀j:Nat,j<ls.length-> ∃(A:AF) (c:Nat),vals[j]? =some (Value.slice A (ls.getD j []).length c)/\Rd w A (ls.getD j []).length c 1 (ints k (ls.getD j []))/\(∀x∈ls.getD j [],(Lit.int k x).wf=true)/\(ls.getD j []).length<=140737488355327
theorem SlW.at {k:IntKind} {w:World} {vals:AG} {ls:AD} (h:SlW k w vals ls) {i:Int} (h0:0<=i) (h1:i<ls.length): ∃(A:AF) (c:Nat),vals[i.toNat]? =some (Value.slice A (rdl ls i).length c)/\Rd w A (rdl ls i).length c 1 (ints k (rdl ls i))/\(∀x∈rdl ls i,(Lit.int k x).wf=true)/\(rdl ls i).length<=140737488355327:=
 h.2 i.toNat G
theorem SlW.c {k:IntKind} {w w':World} {R:List Row} {vals:AG} {ls:AD} (h:SlW k w vals ls) (hw:Hp w.heap.size w w' R):SlW k w' vals ls:=
 ⟨h.1,λj hj=>by
  obtain⟨A,c,h1,h2,h3⟩:=h.2 j hj
  exact⟨A,c,h1,h2.below hw.below,h3⟩⟩
theorem gD (k:IntKind) (w:World):SlW k w [] []:=⟨rfl,λj hj=>by simp at hj⟩
theorem vS {H:Type} {P:Program} {t:TypeId}: ∀ {ds:List (DataW H)} {d:DataW H},d∈ds-> ∀n∈d.weights P t,n∈DataW.weightsAll P t ds
 |[],_,h,_,_=>by cases h
 |d'::ds,d,hd,n,hn=>by
  simp only[DataW.weightsAll,dz];rcases jc.1 hd with rfl|h
  ·exact .inl hn
  ·exact .inr (vS h n hn)
theorem aLe {H:Type} {P:Program} {ts:List TypeId} {ds:List (DataW H)} (h:(DataW.weightsEach P ts ds).all (· <=reachBytes)=true) {j:Nat} {t e q:TypeId} {k:IntKind} {len:Nat} {A:Nat->AF} {L:Nat->Nat} {Z:Nat->AH} {spare:List (DataW H)}
  (ht:ts[j]? =some t) (hd:ds[j]? =some (.slice ((List.range len).map λr=>Go.Deep.intRow k (A r) (L r) (Z r)) spare)) (hu:P.underlying t=some (.slice e)) (Mv:P.underlying e=some (.slice q)) (hb:Nat.ble 1 (P.bytesOf q)=true) {r:Nat} (hr:r<len) (hL:L r<=(Z r).length) (hn:A r=none->(Z r).length=0):L r<=140737488355327:=by
 cases hA:A r with
 |none=>have:=hn hA;omega
 | some a=>
  have hm:(DataW.slice (Go.ChangeShapes.lits k ((Z r).take (L r))) (Go.ChangeShapes.lits k ((Z r).drop (L r))):DataW H)∈(List.range len).map λr=>Go.Deep.intRow k (A r) (L r) (Z r):=by
   refine ii.2 ⟨r,jw.2 hr,?_⟩;simp[Go.Deep.intRow,hA]
  have hw:=yu (xc.1 h _ (DataW.weights_mem_each ht hd (((Go.ChangeShapes.lits k ((Z r).take (L r)):List (DataW H)).length+(Go.ChangeShapes.lits k ((Z r).drop (L r)):List (DataW H)).length)*P.bytesOf q) (by
   simp only[DataW.weights,hu,jc,dz]
   exact Or.inr (Or.inl (vS hm _ (by simp[DataW.weights,Mv]))))))
  have u4:=ak hb;have Zu:=reachBytes_lt
  have hl:(Go.ChangeShapes.lits k ((Z r).take (L r)):List (DataW H)).length=L r:=by
   simp[Go.ChangeShapes.lits];omega
  rw[hl] at hw;have:L r*1<=(L r+(Go.ChangeShapes.lits k ((Z r).drop (L r)):List (DataW H)).length)*P.bytesOf q:=Bh G u4;omega
theorem aQx {k:IntKind} {W:World} {a:Addr} {base len cap:Nat} {A:Nat->AF} {L C:Nat->Nat} {Z:Nat->AH} (hl:len<=cap) (hm:cap<=maxLen)
  (h: ∀r,r<cap->W.cell? (a.add r)=some (.slice (A r) (L r) (C r))/\L r<=C r/\C r<=maxLen/\(Z r).length=C r/\(∀n∈Z r,(Lit.int k n).wf=true)/\(A r=none->C r=0)/\ ∀a',A r=some a'->base<=a'.block/\ ∀c,c<C r->W.cell? (a'.add c)=some (.int k ((Z r).getD c 0))) (hs: ∀r,r<len->L r<=140737488355327):
  ∃(vals:AG) (ls:AD),len=ls.length/\Rd W (some a) ls.length cap 1 vals/\SlW k W vals ls:=by
 unfold maxLen at hm;refine⟨(List.range len).map λr=> .slice (A r) (L r) (C r),(List.range len).map λr=>(Z r).take (L r),cD,⟨cD,cH,by simpa using hl,λj v hv=>⟨a,rfl,?_⟩⟩,cD,λj hj=> ?_⟩
 ·rw [ol] at hv;obtain⟨r,hr,rfl⟩:=iw.1 hv;obtain⟨bp,he⟩:=fw.1 hr;rw[zg] at he;subst he;rw[yo] at bp;exact(h j G).1
 ·simp only[bq,yo] at hj;obtain⟨h1,h2,h3,h4,h5,h6,h7⟩:=h j G
  have e:((List.range len).map λr=>(Z r).take (L r)).getD j []=(Z j).take (L j):=by
   simp[ai,yw hj]
  have el:((Z j).take (L j)).length=L j:=by rw[ax];omega
  rw[e,el];unfold maxLen at h3;refine⟨A j,C j,?_,⟨by rw[bX,el];omega,G,h2,λq v hq=> ?_⟩,λx hx=>h5 x (lc hx),hs j hj⟩
  ·rw [ol,yw hj];rfl
  ·have xa:q<L j:=by
    rcases gm q (L j) with h|h
    ·exact h
    ·rw[lu (by rw[bX,el];omega)] at hq;cases hq
   cases hA:A j with
   |none=>have:=h6 hA;omega
   |some a'=>
    refine⟨a',rfl,?_⟩;rw[(h7 a' hA).2 q G];have Zt:q<(Z j).length:=G
    simp[ints,xa,av Zt] at hq;subst hq;simp[ai,av Zt]
section
variable {P:Program} {n:Nd} {B:Nat} {w0:World} {L:Env} {R:List Row} {ty:TypeId}
theorem jN {x y:Operand} {t e sz:Nat} {v:Value} {xs vs:AG} {g:Nat} (i:Nat) (hi:R[i]? =some ⟨e,sz,some ⟨g,0,none⟩,1,1,xs,false⟩) (ge:(P.info? t).map (·.size)=some sz) (hx:ev L x=some (.pointer (some ⟨g,0,none⟩))) (hy:ev L y=some v) (hv:v.cells.toList=vs) (h1: ∀v∈vs,v.oneCell'=true) (hl:vs.length=sz):
  Ac P n B w0 (.store t x y) ty L R (λ_ R'=>R'=R.set i ⟨e,sz,some ⟨g,0,none⟩,1,1,vs,false⟩):=by
 intro a w o K Q ho Hk hs hp hk
 have Ls:xs.length=sz:=by
  have:=(Row.rd (hp.own _ (gu hi))).len;simpa using this
 have:=PD (P:=P) (n:=n) (B:=B) (w0:=w0) (ty:=ty) (j:=0) i hi rfl rfl (vs:=vs) (by rw[ge,hl]) hx (by simp[pat,Addr.add]) hy hv h1 (by simp only;omega);simp only[zh,jd,og,hl,<-Ls,Ib,jh] at this;rw[Ls] at this;exact this a w o K Q ho Hk hs hp hk
end
def prs (l:AE):AG:=l.flatMap λp=>[.int .i64 p.1, .int .i64 p.2]
def rdp (l:AE) (i:Int):Int × Int:=l.getD i.toNat (0,0)
theorem jK: ∀l:AE,(prs l).length=l.length*2
 |[]=>rfl
 |p::l=>by
  have:=jK l;unfold prs at*;rw[zw,ah,this];simp;omega
theorem ML (l m:AE):prs (l++m)=prs l++prs m:=by simp[prs]
theorem MK: ∀(l:AE) (i:Nat),(prs l).drop (i*2)=prs (l.drop i)
 |l,0=>cD
 |[],i+1=>by simp[prs]
 |p::l,i+1=>by
  have:=MK l i;have e:(i+1)*2=i*2+1+1:=G
  rw[e];show((Value.int .i64 p.1::Value.int .i64 p.2::prs l).drop (i*2+1+1))=_;rw[List.drop_succ_cons,List.drop_succ_cons,this];rfl
theorem aSi {l:AE} {i:Int} (h0:0<=i) (h:i<l.length):l.drop i.toNat=rdp l i::l.drop (i+1).toNat:=by
 have hl:i.toNat<l.length:=G
 have e:(i+1).toNat=i.toNat+1:=G
 rw[e,ll hl];simp[rdp,ai,av hl]
theorem bGc {l:AE} {i:Int} (h0:0<=i) (h:i<l.length):((prs l).drop (i.toNat*2)).take 2=[.int .i64 (rdp l i).1, .int .i64 (rdp l i).2]:=by
 rw[MK,aSi h0 h];rfl
theorem bAb (l:AE): ∀v∈prs l,v.oneCell'=true:=by
 intro v hv;unfold prs at hv;obtain⟨p,_,hp⟩:=Ai.1 hv;simp at hp;rcases hp with rfl|rfl<;>rfl
section
variable {P:Program} {n:Nd} {B:Nat} {w0:World} {L:Env} {R:List Row} {ty:TypeId}
theorem aHh {x:Operand} {t:TypeId} {d:TypeDesc} {A:AF} {m c:Nat} {l:AE} {i:Int} (hu:P.underlying t=some d) (hd:GX d=true) (ge:(P.info? t).map (·.size)=some 2) (hx:ev L x=some (.pointer (pat A (i.toNat*2)))) (hr:RdC B w0 R A m c 2 (prs l)) (h0:0<=i:=by omega) (h1:i<l.length:=by omega):
  Yl P n B w0 (.load t x) ty L R (.agg #[.int .i64 (rdp l i).1, .int .i64 (rdp l i).2]):=by
 have:=aPu (P:=P) (n:=n) (B:=B) (w0:=w0) (R:=R) (ty:=ty) hu hd ge hx rfl hr (by rw[jK];omega) G;rwa[bGc h0 h1] at this
theorem jT {s x:Operand} {t e:TypeId} {z:Value} {bytes m p c c2:Nat} {A A2:AF} {l news:AE} (i:Nat) (hi:R[i]? =some ⟨e,2,A,p,c,prs l,false⟩) (ht:P.underlying t=some (.slice e)) (dt:(P.info? e).map (λi=>(i.zero,i.size,i.bytes))=some (some z,2,bytes)) (hz:z.cells.size=2) (o7:Nat.blt 0 bytes=true)
  (hs:ev L s=some (.slice A p c)) (hx:ev L x=some (.slice A2 m c2)) (gr:RdC B w0 R A2 m c2 2 (prs news)) (kl:(p+m)*bytes<=140737488355328):
  Ac P n B w0 (.call {callee:= .builtin .append,args:= #[s,x],argTypes:= #[t,t]}) ty L R (λv R'=> ∃A' c',v= .slice A' (p+m) c'/\R'=R.set i ⟨e,2,A',p+m,c',prs (l++news),false⟩):=by
 have:=fJ (P:=P) (n:=n) (B:=B) (w0:=w0) (ty:=ty) i hi rfl ht dt hz rfl o7 hs hx gr (bAb news) kl;simp only[<-ML] at this;exact this
theorem WY {t e:TypeId} {x:Operand} {a b:Int} (ht:P.underlying t=some (.slice e)) (dt:(P.info? e).map (λi=>(i.zero,i.size))=some (some (.agg #[.int .i64 0, .int .i64 0]),2)) (hx:ev L x=some (.agg #[.int .i64 a, .int .i64 b])):
  Ac P n B w0 (.buildSlice t 1 #[(0,x)]) ty L R (λv R'=> ∃g,v= .slice (some ⟨g,0,none⟩) 1 1/\R'=⟨e,2,some ⟨g,0,none⟩,1,1,prs [(a,b)],false⟩::R):=by
 have hv:evp L [(0,x)]=some [(0, .agg #[.int .i64 a, .int .i64 b])]:=by simp[evp,hx]
 exact qG (P:=P) (n:=n) (B:=B) (w0:=w0) (L:=L) (R:=R) (ty:=ty) (len:=1) (ps:=[(0,x)]) (cells:= #[.int .i64 a, .int .i64 b]) ht dt hv cC cC cA (by rfl)
theorem aSs {w:World} {m c:Nat} {l:AE} (h:Rd w none m c 2 (prs l)):l=[]:=by
 cases l with
 |nil=>rfl
 |cons p l=>
  obtain⟨a,ha,_⟩:=h.at_ 0 (.int .i64 p.1) rfl;cases ha
theorem Hp.nilP {w:World} (h:Hp B w0 w R) (e:TypeId):Hp B w0 w (⟨e,2,none,0,0,prs [],false⟩::R):=h.nil e 2
theorem fM {x:Operand} {t:TypeId} {d:TypeDesc} {g j m c sz:Nat} {xs:AG} {v:Value} (hr:RdC B w0 R (some ⟨g,0,none⟩) m c sz xs) (hu:P.underlying t=some d) (hd:GX d=false) (hx:ev L x=some (.pointer (some ⟨g,j,none⟩))) (hv:xs[j]? =some v):Yl P n B w0 (.load t x) ty L R v:=
 lC hu hd hx (by simp only[pat,kv,EN]) hr hv
theorem bM {x:Operand} {t:TypeId} {d:TypeDesc} {g j st m c sz:Nat} {xs vs:AG} (hr:RdC B w0 R (some ⟨g,0,none⟩) m c sz xs) (hu:P.underlying t=some d) (hd:GX d=true) (ge:(P.info? t).map (·.size)=some st) (hx:ev L x=some (.pointer (some ⟨g,j,none⟩))) (hv:(xs.drop j).take st=vs) (hj:j+st<=xs.length) (Mq:Nat.blt 0 st=true):Yl P n B w0 (.load t x) ty L R (.agg vs.toArray):=by
 have:=aPu (P:=P) (n:=n) (B:=B) (w0:=w0) (ty:=ty) hu hd ge hx (by simp only[pat,kv,EN]) hr hj (ak Mq);rwa[hv] at this
theorem dK {x ix:Operand} {t e:TypeId} {k:IntKind} {g j q N m c sz:Nat} {i:Int} {xs:AG} (hr:RdC B w0 R (some ⟨g,0,none⟩) m c sz xs) (ht:P.underlying t=some (.array N e)) (hi:(P.info? e).map (·.size)=some 1) (hx:ev L x=some (.pointer (some ⟨g,j,none⟩))) (se:ev L ix=some (.int k i)) (bp:j<xs.length) (h0:0<=i) (h1:i<N) (hq:j+i.toNat=q):
  Yl P n B w0 (.indexAddr t x ix) ty L R (.pointer (some ⟨g,q,none⟩)):=by
 subst hq
 have Lk:(some ⟨g,j,none⟩:AF)=pat (some ⟨g,0,none⟩) j:=by
  simp only[pat,kv,EN]
 have:=zI (P:=P) (n:=n) (B:=B) (w0:=w0) (ty:=ty) ht hi hx Lk se hr bp h0 h1;rw[qf] at this;simpa only[pat,kv,EN] using this
theorem gX {t:TypeId} {ps:List (Nat × Operand)} {vs:List (Nat × Value)} {v:Value} (hv:evp L ps=some vs) (h: ∀w,(Instr.build t vs.toArray).run P w= .ok v w):Yl P n B w0 (.build t ps.toArray) ty L R v:=by
 intro a w o ho _ hs _;have Od:=hs.evp hv;simp[execOp,ho,Od,h]
theorem aSr (l:AE) (i:Nat):(prs l).take (i*2)=prs (l.take i):=by
 have h:prs l=prs (l.take i)++prs (l.drop i):=by rw[<-ML,gy]
 have hl:=jK (l.take i);rw[ax] at hl;rw[h];by_cases hi:i<=l.length
 ·rw[Ep G,bi G]
 ·rw[qd G,show prs []=[] from rfl,jh,bi G]
theorem RdC.toP {A:AF} {m h c:Nat} {l:AE} (hr:RdC B w0 R A m c 2 (prs l)) (h2:h<=m):RdC B w0 R A h c 2 (prs (l.take h)):=by
 have:=hr.to h2;rwa[aSr] at this
theorem RdC.fromP {A:AF} {m c h:Nat} {l:AE} (hr:RdC B w0 R A m c 2 (prs l)) (h1:h<=m):RdC B w0 R (jH A h c 2) (m-h) (c-h) 2 (prs (l.drop h)):=by
 intro w hw;have hl:=(hr w hw).len;have:=hr.cut h1 (dx m) w hw;rw[MK,bi (by rw[jK,az];rw[jK] at hl;omega)] at this;exact this
theorem YK (k:Nat) (t e:TypeId) (A:AF) (m c:Nat) (ht:P.underlying t=some (.slice e)) (w:World):(Op.equalIn (k+1) t (.slice A m c) (.slice none 0 0)).run P w= .ok A.isNone w:=by
 cases A<;>simp[Op.equalIn,mh ht]
theorem aLl (t e:TypeId) (A:AF) (m c:Nat) (ht:P.underlying t=some (.slice e)) (w:World):(Op.equal t (.slice A m c) (.slice none 0 0)).run P w= .ok A.isNone w:=YK 9999 t e A m c ht w
theorem aHg {x y:Operand} {t u e:TypeId} {A:AF} {m c:Nat} (ht:P.underlying t=some (.slice e)) (hx:ev L x=some (.slice A m c)) (hy:ev L y=some (.slice none 0 0)):Yl P n B w0 (.binOp .eql t x y u) ty L R (.bool A.isNone):=by
 intro a w o ho _ hs _;simp[execOp,ho,binOp,eqGuard,hs.ev hx,hs.ev hy,aLl t e A m c ht]
theorem WX {t e:TypeId} (ht:P.underlying t=some (.slice e)) (dt:(P.info? e).map (λi=>(i.zero,i.size))=some (some (.agg #[.int .i64 0, .int .i64 0]),2)):
  Ac P n B w0 (.buildSlice t 0 #[]) ty L R (λv R'=> ∃g,v= .slice (some ⟨g,0,none⟩) 0 0/\R'=⟨e,2,some ⟨g,0,none⟩,0,0,prs [],false⟩::R):=
 qG (P:=P) (n:=n) (B:=B) (w0:=w0) (L:=L) (R:=R) (ty:=ty) (len:=0) (ps:=[]) (vs:=[]) (cells:= #[]) ht dt rfl cC cC cA (by rfl)
theorem Hp.selR {w:World} {F F':List Row} (h:Hp B w0 w (F++R)) (is:List Nat) (hn:is.Nodup) (hR:is.map (λi=>F[i]?)=F'.map some):Hp B w0 w (F'++R):=by
 have hp:=kg.1 h.apart;have hF:Hp B w0 w F:=⟨h.below,h.base,λr hr=>h.own r (dz.2 (.inl hr)),hp.1,h.late⟩;have Vh:=hF.sel is hn hR
 have mem: ∀q∈F',q∈F:=by
  intro q hq;have h1:some q∈F'.map some:=ii.2 ⟨q,hq,rfl⟩;rw[<-hR] at h1;obtain⟨i,_,hi⟩:=ii.1 h1;exact gu hi
 refine⟨h.below,h.base,λr hr=> ?_,kg.2 ⟨Vh.apart,hp.2.1,λq hq r hr=>hp.2.2 q (mem q hq) r hr⟩,h.late⟩;rcases dz.1 hr with h1|h1
 ·exact h.own r (dz.2 (.inl (mem r h1)))
 ·exact h.own r (dz.2 (.inr h1))
end
end Go.Eng
namespace Go.Eng
open Go Go.RowKit
section
variable {P:Program} {n:Nd} {B:Nat} {w0:World} {L:Env} {R:List Row} {ty:TypeId}
theorem yF {x:Operand} {t tf:TypeId} {fs:Array Field} {k st g j:Nat} (off m:Nat) (hu:P.underlying t=some (.struct fs)) (ge:(P.info? tf).map (·.size)=some st) (hx:ev L x=some (.pointer (some ⟨g,j,none⟩))) (hf:(fs[k]?).map (λf=>(f.offset,f.type))=some (off,tf):=by exact rfl) (Mq:Nat.blt 0 st=true:=by exact rfl) (hm:j+off=m:=by exact rfl):Yl P n B w0 (.fieldAddr t x k) ty L R (.pointer (some ⟨g,m,none⟩)):=aKj hu hf ge Mq hx hm
theorem yL {x:Operand} {t e:TypeId} {d:TypeDesc} {g j m c sz:Nat} {xs:AG} {v:Value} {ro:Bool} (i:Nat) (hu:P.underlying t=some d) (hx:ev L x=some (.pointer (some ⟨g,j,none⟩))) (hi:R[i]? =some ⟨e,sz,some ⟨g,0,none⟩,m,c,xs,ro⟩) (hv:xs[j]? =some v) (hd:GX d=false:=by exact rfl):Yl P n B w0 (.load t x) ty L R v:=fM (rdr i hi) hu hd hx hv
end
end Go.Eng
namespace Go.Eng
open Go Go.RowKit Go.Proofs Go.Sort
theorem JU: ∀(l:AE) (t:Nat),t<l.length*2->(prs l)[t]? =some (if t%2=0 then .int .i64 (l.getD (t/2) (0,0)).1 else .int .i64 (l.getD (t/2) (0,0)).2)
 |[],t,h=>by simp at h
 |p::l,0,_=>rfl
 |p::l,1,_=>rfl
 |p::l,t+2,h=>by
  have ih:=JU l t (by simp only[dn] at h;omega);have e1:(t+2)%2=t%2:=G
  have e2:(t+2)/2=t/2+1:=G
  rw[e1,e2];show(Value.int .i64 p.1::Value.int .i64 p.2::prs l)[t+2]? =_;rw[Cv,Cv,ih];rfl
def encP {l:AE} (x: {p:Int × Int//p∈l}):AG:=[.int .i64 x.1.1, .int .i64 x.1.2]
theorem SY {l:AE} [Inhabited {p:Int × Int//p∈l}] (d:Array {p:Int × Int//p∈l}):(flatK encP 2 d).toList=prs (d.toList.map Subtype.val):=by
 apply ul;intro t;have hs:(flatK encP 2 d).size=d.size*2:=size_flatK _ _ _;by_cases h:t<d.size*2
 ·rw [JU _ t (by simpa using h),si];have h2:t/2<d.size:=G
  have hg:(flatK encP 2 d)[t]? =some ((flatK encP 2 d)[t]!):=by
   rw[qb (by rw[hs];exact h),uo _ t (by rw[hs];exact h)]
  rw[hg,get_flatK encP 2 d t h];have e:d[t/2]! =d[t/2]:=uo d _ h2
  have e3:(d.toList.map Subtype.val).getD (t/2) (0,0)=d[t/2].1:=by
   simp[ai,h2]
  rw[e,e3];rcases Nat.mod_two_eq_zero_or_one t with hm|hm
  ·rw[hm];rfl
  ·rw[hm];rfl
 ·rw[lu (by rw[jy,hs];omega),lu (by rw[jK];simp;omega)]
end Go.Eng
namespace Go.Pure
open Go Go.Eng
def orL:AH->Int
 |[]=>0
 |a::l=>if a≠0 then a else orL l
theorem bGh {l:AH} {k:Int} (h0:0<=k) (h:k<l.length) (hz:rd l k=0):orL (l.drop k.toNat)=orL (l.drop (k+1).toNat):=by
 rw[jE h0 h,orL,df G]
theorem bAh {l:AH} {k:Int} (h0:0<=k) (h:k<l.length) (hz:rd l k≠0):orL (l.drop k.toNat)=rd l k:=by
 rw[jE h0 h,orL,di hz]
def ahd (ws:AD) (bs rs:AH) (t:Int × Int) (h:Int):Int:=rd rs (rd bs t.1+(t.2+h)%((rdl ws t.1).length:Int))
def aDe (ws:AD) (bs rs:AH) (h:Int) (t u:Int × Int):Int:=
 orL [iG (ahd ws bs rs t 0) (ahd ws bs rs u 0),iG (ahd ws bs rs t h) (ahd ws bs rs u h),iG t.1 u.1,iG t.2 u.2]
def TOk (ws:AD) (bs:AH) (N:Nat) (t:Int × Int):Prop:=(0<=t.1/\t.1<ws.length/\t.1<bs.length)/\(0<=t.2/\t.2<(rdl ws t.1).length/\t.2<=1000000)/\0<(rdl ws t.1).length/\(0<=rd bs t.1/\rd bs t.1+(rdl ws t.1).length<=N)
def iM (bs:AH) (t:Int × Int):Int:=rd bs t.1+t.2
def IJ (ws:AD) (bs rs:AH) (h:Int) (t u:Int × Int):Prop:=ahd ws bs rs t 0≠ahd ws bs rs u 0\/ahd ws bs rs t h≠ahd ws bs rs u h
instance (ws:AD) (bs rs:AH) (h:Int) (t u:Int × Int):Decidable (IJ ws bs rs h t u):=by unfold IJ;infer_instance
def iU (ws:AD) (bs rs:AH) (h:Int) (l:AE):Nat->Int
 |0=>0
 |i+1=>iU ws bs rs h l i+if IJ ws bs rs h (rdp l i) (rdp l (i+1:Nat)) then 1 else 0
theorem yT {ws:AD} {bs rs:AH} {h:Int} {l:AE} {i:Int} (hi:0<i):iU ws bs rs h l i.toNat=iU ws bs rs h l (i-1).toNat+if IJ ws bs rs h (rdp l (i-1)) (rdp l i) then 1 else 0:=by
 obtain⟨k,rfl⟩: ∃k:Nat,i=(k:Int)+1:=⟨(i-1).toNat,G⟩;have e1:((k:Int)+1).toNat=k+1:=G
 have e2:((k:Int)+1-1)=k:=G
 rw[e1,e2,cz];rfl
theorem eX {l:AH} {i v:Int} (h0:0<=i) (h:i<l.length):rd (upd l i v) i=v:=by
 unfold rd upd;have hl:i.toNat<l.length:=G
 simp[ai,hl]
theorem fP {l:AH} {i j v:Int} (h0:0<=i) (hj:0<=j) (cv:i≠j):rd (upd l i v) j=rd l j:=by
 unfold rd upd;have:i.toNat≠j.toNat:=G
 simp[ai,this]
theorem jY {l:AE} {i:Int} (h0:0<=i) (h:i<l.length):rdp l i∈l:=by
 have hl:i.toNat<l.length:=G
 simp[rdp,ai,av hl]
theorem aZq {l:AE} (hd:l.Nodup) {i j:Int} (h0:0<=i) (h:i<l.length) (g0:0<=j) (g:j<l.length) (e:rdp l i=rdp l j):i=j:=by
 have hi:i.toNat<l.length:=G
 have hj:j.toNat<l.length:=G
 simp only[rdp,ai,av hi,av hj,oz] at e;rcases jk i j with bp|bp|bp
 ·exact absurd e (ed.1 hd i.toNat j.toNat hi hj G)
 ·exact bp
 ·exact absurd e.symm (ed.1 hd j.toNat i.toNat hj hi G)
theorem zT {bs rk:AH} {l:AE} {f:Nat->Int} {i n:Int} (hnd:l.Nodup) (Oj: ∀t∈l,∀u∈l,iM bs t=iM bs u->t=u) (h0:0<=i) (hi:i<l.length) (ff: ∀t∈l,0<=iM bs t) (bp:iM bs (rdp l i)<rk.length)
  (l9: ∀j:Nat,j<i->rd rk (iM bs (rdp l j))=f j) (hn:n=f i.toNat): ∀j:Nat,(j:Int)<i+1->rd (upd rk (rd bs (rdp l i).1+(rdp l i).2) n) (iM bs (rdp l j))=f j:=by
 intro j hj;have Qk:=ff _ (jY h0 hi);by_cases r9:(j:Int)=i
 ·subst r9;rw[cz] at hn;rw[<-hn];exact eX Qk bp
 ·have Lj:=ff _ (jY (show(0:Int)<=j by omega) (show(j:Int)<l.length by omega));have cv:iM bs (rdp l i)≠iM bs (rdp l j):=λe=>r9 (aZq hnd G G h0 hi (Oj _ (jY h0 hi) _ (jY G G) e).symm);have e:=fP (l:=rk) (v:=n) Qk Lj cv;rw[<-l9 j G];exact e
theorem EE {a b:Int}:iG a b<0↔a<b:=by unfold iG;split<;>(try split)<;>omega
theorem BL (ws:AD) (bs rs:AH) (h:Int) (t u:Int × Int):aDe ws bs rs h t u<0↔
  (ahd ws bs rs t 0<ahd ws bs rs u 0\/ahd ws bs rs t 0=ahd ws bs rs u 0/\(ahd ws bs rs t h<ahd ws bs rs u h\/ahd ws bs rs t h=ahd ws bs rs u h/\(t.1<u.1\/t.1=u.1/\t.2<u.2))):=by
 unfold aDe;simp only[orL];generalize ahd ws bs rs t 0=a;generalize ahd ws bs rs u 0=b;generalize ahd ws bs rs t h=c;generalize ahd ws bs rs u h=d;by_cases h1:a=b
 ·have e1:iG a b=0:=kJ.2 h1;by_cases h2:c=d
  ·have e2:iG c d=0:=kJ.2 h2;by_cases h3:t.1=u.1
   ·have e3:iG t.1 u.1=0:=kJ.2 h3;by_cases h4:t.2=u.2
    ·have e4:iG t.2 u.2=0:=kJ.2 h4;simp[e1,e2,e3,e4];omega
    ·have e4:iG t.2 u.2≠0:=λe=>h4 (kJ.1 e);simp only[e1,e2,e3,ne_eq,not_true,Dn,xx,Jd,e4,EE];omega
   ·have e3:iG t.1 u.1≠0:=λe=>h3 (kJ.1 e);simp only[e1,e2,ne_eq,not_true,Dn,xx,Jd,e3,EE];omega
  ·have e2:iG c d≠0:=λe=>h2 (kJ.1 e);simp only[e1,ne_eq,not_true,Dn,xx,Jd,e2,EE];omega
 ·have e1:iG a b≠0:=λe=>h1 (kJ.1 e);simp only[ne_eq,e1,Dn,Jd,EE];omega
theorem aQl (ws:AD) (bs rs:AH) (h:Int):Go.Sort.SWO (Go.Proofs.ltOf (aDe ws bs rs h)):=by
 refine⟨λx=> ?_,λx y z h1 h2=> ?_,λx y z h1 h2=> ?_⟩
 ·simp only[Go.Proofs.ltOf,uq,BL];omega
 ·simp only[Go.Proofs.ltOf,zz,BL] at*;omega
 ·simp only[Go.Proofs.ltOf,uq,BL] at*;omega
end Go.Pure
namespace Go.Pure
open Go Go.Eng
def oH (ws:AD) (k:Nat):Nat:=((ws.take k).flatten).length
def sJ (ws:AD) (k:Nat):AH:=(List.range k).map λi=>(oH ws i:Int)
def turnsOf (w:Int) (j:Nat):AE:=(List.range j).map λi:Nat=>(w,(i:Int))
def fG (ws:AD):Nat->AE
 |0=>[]
 |k+1=>fG ws k++turnsOf k (rdl ws k).length
theorem BG (w:Int) {j:Int} (h:0<=j):turnsOf w (j+1).toNat=turnsOf w j.toNat++[(w,j)]:=by
 obtain⟨j,rfl⟩: ∃m:Nat,j=m:=⟨j.toNat,G⟩;rw[show((j:Int)+1).toNat=j+1 by omega,cz];unfold turnsOf;rw[zm,iv];rfl
theorem HV (w:Int) (j:Nat):(turnsOf w j).length=j:=by simp[turnsOf]
theorem fC {ws:AD} {k:Int} (h0:0<=k) (h:k<ws.length):(ws.take (k+1).toNat).flatten=(ws.take k.toNat).flatten++rdl ws k:=by
 rw[show ws.take (k+1).toNat=ws.take k.toNat++[rdl ws k] from ?_]
 ·simp
 ·have hl:k.toNat<ws.length:=G
  rw[show(k+1).toNat=k.toNat+1 by omega,qm,av hl];simp[rdl,ai,av hl]
theorem kI {ws:AD} {k:Int} (h0:0<=k) (h:k<ws.length):oH ws (k+1).toNat=oH ws k.toNat+(rdl ws k).length:=by
 unfold oH;rw[fC h0 h,ah]
theorem JV (ws:AD) (k:Nat):oH ws k<=ws.flatten.length:=by
 unfold oH;have:=gy k ws
 calc ((ws.take k).flatten).length<=((ws.take k).flatten).length+((ws.drop k).flatten).length:=Bo _ _
  _=((ws.take k++ws.drop k).flatten).length:=by rw[lq,ah]
  _=_:=by rw[this]
theorem aGr {ws:AD} {k:Int} (h0:0<=k):sJ ws (k+1).toNat=sJ ws k.toNat++[(oH ws k.toNat:Int)]:=by
 rw[show(k+1).toNat=k.toNat+1 by omega];unfold sJ;rw[zm,iv];rfl
theorem TU (ws:AD) (k:Nat):(sJ ws k).length=k:=by simp[sJ]
theorem KW {ws:AD} {k:Int} (h0:0<=k):fG ws (k+1).toNat=fG ws k.toNat++turnsOf k (rdl ws k).length:=by
 obtain⟨k,rfl⟩: ∃m:Nat,k=m:=⟨k.toNat,G⟩;rw[show((k:Int)+1).toNat=k+1 by omega,cz];rfl
theorem xY (ws:AD): ∀k:Nat,k<=ws.length->(fG ws k).length=oH ws k
 |0,_=>rfl
 |k+1,h=>by
  have ih:=xY ws k G;have:=kI (ws:=ws) (k:=k) G G;rw[show((k:Int)+1).toNat=k+1 by omega,cz] at this;show(fG ws k++turnsOf k (rdl ws k).length).length=_;rw[ah,ih,HV,this]
end Go.Pure
namespace Go.Pure
open Go Go.Eng
variable {H:Nat} {h:Int} {ws:AD} {bs rs:AH}
def tw (ws:AD) (t:Int × Int) (j:Nat):Int:=(rdl ws t.1).getD ((t.2.toNat+j)%(rdl ws t.1).length) 0
def TV (ws:AD) (t:Int × Int):Prop:=0<=t.1/\t.1<ws.length/\0<=t.2/\t.2<(rdl ws t.1).length
def LtH (H:Nat) (U V:Nat->Int):Prop:= ∃k,k<H/\(∀i,i<k->U i=V i)/\U k<V k
def EqH (H:Nat) (U V:Nat->Int):Prop:= ∀i,i<H->U i=V i
theorem EqH.symm {U V:Nat->Int} (h:EqH H U V):EqH H V U:=λi hi=>(h i hi).symm
theorem EqH.trans {U V W:Nat->Int} (h:EqH H U V) (h':EqH H V W):EqH H U W:=λi hi=>(h i hi).trans (h' i hi)
theorem LtH.not_eq {U V:Nat->Int} (h:LtH H U V): ¬EqH H U V:=λe=>by
 obtain⟨k,hk,_,hl⟩:=h;have:=e k hk;omega
theorem LtH.asymm {U V:Nat->Int} (h:LtH H U V): ¬LtH H V U:=by
 obtain⟨k,hk,h1,hl⟩:=h;rintro⟨m,hm,h2,Qb⟩;by_cases a:k<m
 ·have:=h2 k a;omega
 ·by_cases b:m<k
  ·have:=h1 m b;omega
  ·have:k=m:=G
   subst this;omega
theorem LtH.trans {U V W:Nat->Int} (h:LtH H U V) (h':LtH H V W):LtH H U W:=by
 obtain⟨k,hk,h1,hl⟩:=h;obtain⟨m,hm,h2,Qb⟩:=h';by_cases a:k<m
 ·exact⟨k,hk,λi hi=>(h1 i hi).trans (h2 i G),by rw[<-h2 k a];exact hl⟩
 ·by_cases b:m<k
  ·exact⟨m,hm,λi hi=>(h1 i G).trans (h2 i hi),by rw[h1 m b];exact Qb⟩
  ·have:k=m:=G
   subst this;exact⟨k,hk,λi hi=>(h1 i hi).trans (h2 i hi),G⟩
theorem LtH.eq_left {U V W:Nat->Int} (h:EqH H U V) (h':LtH H V W):LtH H U W:=by
 obtain⟨k,hk,h1,hl⟩:=h';exact⟨k,hk,λi hi=>(h i G).trans (h1 i hi),by rw[h k hk];exact hl⟩
theorem LtH.eq_right {U V W:Nat->Int} (h:LtH H U V) (h':EqH H V W):LtH H U W:=by
 obtain⟨k,hk,h1,hl⟩:=h;exact⟨k,hk,λi hi=>(h1 i hi).trans (h' i G),by rw[<-h' k hk];exact hl⟩
theorem tri (H:Nat) (U V:Nat->Int):LtH H U V\/EqH H U V\/LtH H V U:=by
 induction H with
 |zero=>exact .inr (.inl λi hi=>G)
 | succ H ih=>
  rcases ih with⟨k,hk,h⟩|h|⟨k,hk,h⟩
  ·exact .inl ⟨k,G,h⟩
  ·rcases jk (U H) (V H) with a|a|a
   ·exact .inl ⟨H,G,h,a⟩
   ·refine .inr (.inl λi hi=> ?_);by_cases e:i=H
    ·rw[e];exact a
    ·exact h i G
   ·exact .inr (.inr ⟨H,G,λi hi=>(h i hi).symm,a⟩)
  ·exact .inr (.inr ⟨k,G,h⟩)
theorem aJa {h:Nat} {U V:Nat->Int}:EqH (H+h) U V↔EqH H U V/\EqH h (λi=>U (i+H)) (λi=>V (i+H)):=by
 constructor
 ·exact λe=>⟨λi hi=>e i G,λi hi=>e (i+H) G⟩
 ·rintro ⟨a,b⟩ i hi;by_cases c:i<H
  ·exact a i c
  ·have:=b (i-H) G;simpa [rq (show H<=i by omega)] using this
theorem bBc {h:Nat} {U V:Nat->Int}:LtH (H+h) U V↔LtH H U V\/EqH H U V/\LtH h (λi=>U (i+H)) (λi=>V (i+H)):=by
 constructor
 ·rintro ⟨k,hk,h1,hl⟩;by_cases c:k<H
  ·exact .inl ⟨k,c,h1,hl⟩
  ·refine .inr ⟨λi hi=>h1 i G,k-H,G,λi hi=>h1 (i+H) G,?_⟩;simpa [rq (show H<=k by omega)] using hl
 ·rintro (⟨k,hk,h1,hl⟩|⟨e,k,hk,h1,hl⟩)
  ·exact⟨k,G,h1,hl⟩
  ·refine ⟨k+H,G,λi hi=> ?_,hl⟩;by_cases c:i<H
   ·exact e i c
   ·have:=h1 (i-H) G;simpa [rq (show H<=i by omega)] using this
def RK (ws:AD) (bs:AH) (H:Nat) (rs:AH):Prop:= ∀t u,TV ws t->TV ws u->(rd rs (iM bs t)<rd rs (iM bs u)↔LtH H (tw ws t) (tw ws u))/\(rd rs (iM bs t)=rd rs (iM bs u)↔EqH H (tw ws t) (tw ws u))
def sh (ws:AD) (t:Int × Int) (h:Int):Int × Int:=(t.1,(t.2+h)%((rdl ws t.1).length:Int))
theorem aHr {t:Int × Int} (ht:TV ws t):TV ws (sh ws t h):=by
 obtain⟨a,b,c,d⟩:=ht;exact⟨a,b,jv _ G,iy _ G⟩
theorem WT (ws:AD) (bs rs:AH) (t:Int × Int) (h:Int):ahd ws bs rs t h=rd rs (iM bs (sh ws t h)):=rfl
theorem JO {t:Int × Int} (ht:TV ws t):sh ws t 0=t:=by
 obtain⟨a,b,c,d⟩:=ht;unfold sh;rw[yj,ky c d]
theorem QO {t:Int × Int} (ht:TV ws t) (hh:0<=h) (j:Nat):tw ws (sh ws t h) j=tw ws t (j+h.toNat):=by
 obtain⟨a,b,c,d⟩:=ht;unfold tw sh;simp only;congr 1;obtain⟨x,hx⟩: ∃m:Nat,t.2=m:=⟨t.2.toNat,G⟩;obtain⟨y,rfl⟩: ∃m:Nat,h=m:=⟨h.toNat,G⟩;rw[hx,cz,cz,show((x:Int)+(y:Int))=((x+y:Nat):Int) by omega,<-zb,cz,Nat.mod_add_mod];congr 1;omega
def gV (h:Int):Nat:=if h=0 then 1 else(2*h).toNat
def nH (h:Int):Nat:=(max 1 h).toNat
theorem aIm (hh:0<=h) (hr:RK ws bs (nH h) rs) {t u:Int × Int} (ht:TV ws t) (hu:TV ws u):
  (LtH (gV h) (tw ws t) (tw ws u)↔(ahd ws bs rs t 0<ahd ws bs rs u 0\/ahd ws bs rs t 0=ahd ws bs rs u 0/\ahd ws bs rs t h<ahd ws bs rs u h))/\
  (EqH (gV h) (tw ws t) (tw ws u)↔(ahd ws bs rs t 0=ahd ws bs rs u 0/\ahd ws bs rs t h=ahd ws bs rs u h)):=by
 have r0:=hr t u ht hu;have r1:=hr _ _ (aHr (h:=h) ht) (aHr (h:=h) hu);rw[WT,WT,WT,WT,JO ht,JO hu];by_cases h0:h=0
 ·subst h0;rw[JO ht,JO hu];have e:gV 0=nH 0:=cC
  rw[e,<-r0.1,<-r0.2];constructor<;>omega
 ·have e1:nH h=h.toNat:=by unfold nH;omega
  have e2:gV h=h.toNat+h.toNat:=by unfold gV;rw[df h0];omega
  rw[e1] at r0 r1;rw[e2,bBc,aJa,<-r0.1,<-r0.2];have f1:(λi=>tw ws t (i+h.toNat))=tw ws (sh ws t h):=funext λi=>(QO ht hh i).symm;have f2:(λi=>tw ws u (i+h.toNat))=tw ws (sh ws u h):=funext λi=>(QO hu hh i).symm;rw[f1,f2,<-r1.1,<-r1.2];exact⟨Iff.rfl,Iff.rfl⟩
def ltI (t u:Int × Int):Prop:=t.1<u.1\/t.1=u.1/\t.2<u.2
def aTe (ws:AD) (H:Nat) (t u:Int × Int):Prop:=LtH H (tw ws t) (tw ws u)\/EqH H (tw ws t) (tw ws u)/\ltI t u
theorem aQm (hh:0<=h) (hr:RK ws bs (nH h) rs) {t u:Int × Int} (ht:TV ws t) (hu:TV ws u):aDe ws bs rs h t u<0↔aTe ws (gV h) t u:=by
 obtain⟨a,b⟩:=aIm hh hr ht hu;rw[BL];unfold aTe ltI;rw[a,b];omega
theorem aUm (hh:0<=h) (hr:RK ws bs (nH h) rs) {t u:Int × Int} (ht:TV ws t) (hu:TV ws u):IJ ws bs rs h t u↔ ¬EqH (gV h) (tw ws t) (tw ws u):=by
 obtain⟨_,b⟩:=aIm hh hr ht hu;rw[b];unfold IJ;omega
theorem vY: ∀ {a b:AH},a.Perm b->a.Pairwise (· <= ·)->b.Pairwise (· <= ·)->a=b
 |[],b,h,_,_=>(List.nil_perm.1 h).symm
 |x::a,[],h,_,_=>absurd h.symm cD
 | x::a,y::b,h,ha,hb=>by
  have h1:y<=x:=by
   rcases jc.1 (h.mem_iff.1 (.head _)) with e|e
   ·omega
   ·exact(ja.1 hb).1 x e
  have h2:x<=y:=by
   rcases jc.1 (h.mem_iff.2 (.head _)) with e|e
   ·omega
   ·exact(ja.1 ha).1 y e
  have e:x=y:=G
  subst e;rw[vY ((List.perm_cons x).1 h) (ja.1 ha).2 (ja.1 hb).2]
theorem LtH.mono {H M:Nat} {U V:Nat->Int} (h:LtH H U V) (hm:H<=M):LtH M U V:=by
 obtain⟨k,hk,r⟩:=h;exact⟨k,G,r⟩
theorem EqH.mono {H M:Nat} {U V:Nat->Int} (h:EqH M U V) (hm:H<=M):EqH H U V:=λi hi=>h i G
structure Sorted (ws:AD) (M:Nat) (l:AE):Prop where
 tv: ∀t∈l,TV ws t
 nodup:l.Nodup
 pw:l.Pairwise λx y=> ¬aTe ws M y x
theorem pE {l:AE} {j:Nat} (h:j<l.length):rdp l j=l[j]:=by
 simp[rdp,ai,av h]
theorem Sorted.le {ws:AD} {M:Nat} {l:AE} (s:Sorted ws M l) {i j:Nat} (pn:i<j) (hj:j<l.length): ¬LtH M (tw ws (rdp l j)) (tw ws (rdp l i)):=by
 have:=ed.1 s.pw i j G hj pn;rw[pE hj,pE G];exact λh=>this (.inl h)
theorem Sorted.eq_between {ws:AD} {M:Nat} {l:AE} (s:Sorted ws M l) {i m j:Nat} (h1:i<=m) (h2:m<=j) (hj:j<l.length) (he:EqH M (tw ws (rdp l i)) (tw ws (rdp l j))):EqH M (tw ws (rdp l i)) (tw ws (rdp l m)):=by
 rcases Nat.eq_or_lt_of_le h1 with rfl|h1
 ·exact λ_ _=>rfl
 rcases Nat.eq_or_lt_of_le h2 with rfl|h2
 ·exact he
 rcases tri M (tw ws (rdp l i)) (tw ws (rdp l m)) with a|a|a
 ·exact absurd (LtH.eq_left he.symm a) (s.le h2 hj)
 ·exact a
 ·exact absurd a (s.le h1 G)
section
variable {ws:AD} {bs rs:AH} {h:Int} {l:AE}
theorem OL (hh:0<=h) (hr:RK ws bs (nH h) rs) (s:Sorted ws (gV h) l) {j:Nat} (hj:j+1<l.length):
  (EqH (gV h) (tw ws (rdp l j)) (tw ws (rdp l (j+1:Nat)))/\iU ws bs rs h l (j+1)=iU ws bs rs h l j)\/(¬EqH (gV h) (tw ws (rdp l j)) (tw ws (rdp l (j+1:Nat)))/\iU ws bs rs h l (j+1)=iU ws bs rs h l j+1):=by
 have ht:=s.tv _ (jY (l:=l) (i:=(j:Int)) G G);have hu:=s.tv _ (jY (l:=l) (i:=((j+1:Nat):Int)) G G);have hk:=aUm hh hr ht hu;show _/\iU ws bs rs h l j+(if IJ ws bs rs h (rdp l j) (rdp l (j+1:Nat)) then 1 else 0)=_\/_;by_cases e:EqH (gV h) (tw ws (rdp l j)) (tw ws (rdp l (j+1:Nat)))
 ·exact .inl ⟨e,by rw[df (λk=>hk.1 k e),yj]⟩
 ·refine .inr ⟨e,?_⟩;show iU ws bs rs h l j+(if IJ ws bs rs h (rdp l j) (rdp l (j+1:Nat)) then 1 else 0)=_;rw[di (hk.2 e)]
theorem OM (hh:0<=h) (hr:RK ws bs (nH h) rs) (s:Sorted ws (gV h) l) {i:Nat}: ∀d,i+d<l.length->iU ws bs rs h l i<=iU ws bs rs h l (i+d)/\(iU ws bs rs h l i=iU ws bs rs h l (i+d)↔EqH (gV h) (tw ws (rdp l i)) (tw ws (rdp l (i+d:Nat))))
 |0,_=>⟨mf _,⟨λ_ _ _=>rfl,λ_=>rfl⟩⟩
 | d+1,hd=>by
  obtain⟨a,b⟩:=OM (i:=i) hh hr s d G;rcases OL hh hr s (j:=i+d) hd with⟨e,c⟩|⟨e,c⟩
  ·have c':iU ws bs rs h l (i+(d+1))=iU ws bs rs h l (i+d):=c;rw[c'];refine⟨a,b.trans ⟨λx=>x.trans e,λx=>x.trans e.symm⟩⟩
  ·have c':iU ws bs rs h l (i+(d+1))=iU ws bs rs h l (i+d)+1:=c;rw[c'];refine⟨G,⟨λx=>G,λx=>absurd ?_ e⟩⟩;have y:=s.eq_between (m:=i+d) G G hd x;exact y.symm.trans x
theorem aXd (hh:0<=h) (hr:RK ws bs (nH h) rs) (s:Sorted ws (gV h) l) {i j:Nat} (hi:i<l.length) (hj:j<l.length):
  (iU ws bs rs h l i<iU ws bs rs h l j↔LtH (gV h) (tw ws (rdp l i)) (tw ws (rdp l j)))/\(iU ws bs rs h l i=iU ws bs rs h l j↔EqH (gV h) (tw ws (rdp l i)) (tw ws (rdp l j))):=by
 rcases xw i j with bp|rfl|bp
 ·obtain ⟨d,rfl⟩: ∃d,j=i+d:=⟨j-i,G⟩;obtain⟨a,b⟩:=OM (i:=i) hh hr s d hj;refine⟨?_,b⟩;constructor
  ·intro x;rcases tri (gV h) (tw ws (rdp l i)) (tw ws (rdp l (i+d:Nat))) with y|y|y
   ·exact y
   ·have:=b.2 y;omega
   ·exact absurd y (s.le bp hj)
  ·intro x;have:iU ws bs rs h l i≠iU ws bs rs h l (i+d):=λe=>x.not_eq (b.1 e);omega
 ·exact⟨⟨λx=>G,λx=>absurd x x.asymm⟩,⟨λ_ _ _=>rfl,λ_=>rfl⟩⟩
 ·obtain ⟨d,rfl⟩: ∃d,i=j+d:=⟨i-j,G⟩;obtain⟨a,b⟩:=OM (i:=j) hh hr s d hi;refine⟨⟨λx=>G,λx=>absurd x (s.le bp hi)⟩,⟨λx=>(b.1 x.symm).symm,λx=>(b.2 x.symm).symm⟩⟩
theorem aZl (hh:0<=h) (hr:RK ws bs (nH h) rs) (s:Sorted ws (gV h) l) (ka: ∀t,TV ws t->t∈l) {rk:AH} (l9: ∀j:Nat,j<l.length->rd rk (iM bs (rdp l j))=iU ws bs rs h l j):RK ws bs (gV h) rk:=by
 intro t u ht hu;obtain⟨i,hi,rfl⟩:=gz.1 (ka t ht);obtain⟨j,hj,rfl⟩:=gz.1 (ka u hu);rw[<-pE hi,<-pE hj,l9 i hi,l9 j hj];exact aXd hh hr s hi hj
structure Steps (bs rs:AH) (lo:AE) (w:Int):Prop where
 zero:0<lo.length->rd rs (iM bs (rdp lo (0:Nat)))=0
 step: ∀j:Nat,j+1<lo.length->rd rs (iM bs (rdp lo (j+1:Nat)))=rd rs (iM bs (rdp lo j))\/rd rs (iM bs (rdp lo (j+1:Nat)))=rd rs (iM bs (rdp lo j))+1
 last:0<lo.length->rd rs (iM bs (rdp lo ((lo.length-1:Nat):Int)))=w
theorem aDg (hh:0<=h) (hr:RK ws bs (nH h) rs) (s:Sorted ws (gV h) l) {rk:AH} (l9: ∀j:Nat,j<l.length->rd rk (iM bs (rdp l j))=iU ws bs rs h l j):Steps bs rk l (iU ws bs rs h l (l.length-1)):=by
 refine⟨λh0=>by rw[l9 0 h0];rfl,λj hj=> ?_,λh0=>l9 _ G⟩;rw[l9 _ hj,l9 j G];rcases OL hh hr s hj with⟨_,e⟩|⟨_,e⟩
 ·exact .inl e
 ·exact .inr e
theorem NH {f:Int × Int->Int} {l:AE} (h: ∀j:Nat,j+1<l.length->f (rdp l j)<=f (rdp l (j+1:Nat))):(l.map f).Pairwise (· <= ·):=by
 have mono: ∀d i:Nat,i+d<l.length->f (rdp l i)<=f (rdp l (i+d:Nat)):=by
  intro d
  induction d with
  |zero=>intro i _;exact mf _
  |succ d ih=>intro i hi;exact Ig (ih i G) (h (i+d) G)
 refine ik.2 (ed.2 λi j hi hj pn=> ?_);have:=mono (j-i) i G;rw[show i+(j-i)=j by omega,pE hi,pE hj] at this;exact this
theorem bAp (h0:0<h) (hr:RK ws bs (nH h) rs) (s:Sorted ws (gV h) l) {lo:AE} {w:Int} (hp:l.Perm lo) (st:Steps bs rs lo w) (hw:iU ws bs rs h l (l.length-1)=w) {i j:Nat} (hi:i<l.length) (hj:j<l.length)
  (he:EqH (nH h) (tw ws (rdp l i)) (tw ws (rdp l j))):EqH (gV h) (tw ws (rdp l i)) (tw ws (rdp l j)):=by
 have hh:0<=h:=G
 have Ps:nH h<=gV h:=by unfold nH gV;rw[df G];omega
 have hlen:=hp.length_eq
 let g:Int × Int->Int:=λt=>rd rs (iM bs t)
 have Qt: ∀j:Nat,j<l.length->TV ws (rdp l j):=λj hj=>s.tv _ (jY G G)
 have ga:(l.map g).Pairwise (· <= ·):=NH λj hj=>by
  have hn:=s.le (i:=j) (j:=j+1) G hj;have:=(hr _ _ (Qt (j+1) hj) (Qt j G)).1;have Wb: ¬rd rs (iM bs (rdp l (j+1:Nat)))<rd rs (iM bs (rdp l j)):=λx=>hn ((this.1 x).mono Ps);show rd rs (iM bs (rdp l j))<=rd rs (iM bs (rdp l (j+1:Nat)));omega
 have gb:(lo.map g).Pairwise (· <= ·):=NH λj hj=>by
  show rd rs (iM bs (rdp lo j))<=rd rs (iM bs (rdp lo (j+1:Nat)));rcases st.step j hj with e|e<;>omega
 have r8:=vY (hp.map g) ga gb
 have gj: ∀j:Nat,j<l.length->g (rdp l j)=g (rdp lo j):=λj hj=>by
  have h2:j<lo.length:=G
  have:=bu (λq=>q[j]?) r8;simp only[ol,av hj,av h2,kv,mr] at this;rw[pE hj,pE h2];exact this
 have key: ∀d k:Nat,k+d<l.length->iU ws bs rs h l k-g (rdp l k)<=iU ws bs rs h l (k+d)-g (rdp l (k+d:Nat)):=by
  intro d
  induction d with
  |zero=>intro k _;exact mf _
  | succ d ih=>
   intro k hk;refine Ig (ih k G) ?_;have e1:=gj (k+d) G;have e2:=gj (k+(d+1)) hk;have ge:=st.step (k+d) G;have hg:g (rdp lo (k+(d+1):Nat))=g (rdp lo (k+d:Nat))\/g (rdp lo (k+(d+1):Nat))=g (rdp lo (k+d:Nat))+1:=ge;rcases OL hh hr s (j:=k+d) hk with⟨e,c⟩|⟨e,c⟩
   ·have c':iU ws bs rs h l (k+(d+1))=iU ws bs rs h l (k+d):=c;have:=(hr _ _ (Qt (k+d) G) (Qt (k+d+1) hk)).2.2 (e.mono Ps);have this':g (rdp l (k+d:Nat))=g (rdp l (k+(d+1):Nat)):=this;omega
   ·have c':iU ws bs rs h l (k+(d+1))=iU ws bs rs h l (k+d)+1:=c;omega
 have Rj: ∀k:Nat,k<l.length->iU ws bs rs h l k=g (rdp l k):=by
  intro k hk;have ff:0<l.length:=G
  have a:=key k 0 G;have b:=key (l.length-1-k) k G;rw[og] at a;rw[show k+(l.length-1-k)=l.length-1 by omega,hw] at b;have z:=gj 0 ff;have z':g (rdp lo (0:Nat))=0:=st.zero G;have y:=gj (l.length-1) G;have y':=st.last G;rw[<-hlen] at y';have y'':g (rdp lo ((l.length-1:Nat):Int))=w:=y';have c0:iU ws bs rs h l 0=0:=rfl;omega
 have e1:=(hr _ _ (Qt i hi) (Qt j hj)).2.2 he;refine(aXd hh hr s hi hj).2.1 ?_;rw[Rj i hi,Rj j hj];exact e1
end
def Lyn (f:Nat->Int) (p:Nat):Prop:=0<p/\ ∀r,0<r->r<p-> ∃d,r+d<p/\(∀e,e<d->f e=f (r+e))/\f d<f (r+d)
def xV (f:Nat->Int) (p j:Nat):Prop:= ∀i,i+p<j->f (i+p)=f i
theorem xV.mod {f:Nat->Int} {p j:Nat} (hp:0<p) (h:xV f p j): ∀i,i<j->f i=f (i%p):=by
 intro i
 induction i using Nat.strongRecOn with
 | ind i ih=>
  intro hi;rcases gm i p with a|a
  ·rw[lh a]
  ·have e:=h (i-p) G;rw[show i-p+p=i by omega] at e;rw[e,ih (i-p) G G];congr 1;rw[zi a]
theorem aWr {f:Nat->Int} {p j:Nat} (hL:Lyn f p) (nb:xV f p j) (Lj:p<=j) (bp:f (j-p)<f j):Lyn f (j+1):=by
 obtain⟨hp,hL⟩:=hL;have hm:=nb.mod hp;refine⟨G,λr h0 hr=> ?_⟩;have hjp:(j-p)%p=j%p:=(zi Lj).symm
 have hq: ∀e,r+e<j->r%p+e<p->f (r+e)=f (r%p+e):=by
  intro e h1 h2;rw[hm _ h1];congr 1;rw[Jm,lh (a:=e) G,lh h2]
 have Pw:f (j-p)=f (j%p):=by rw[hm (j-p) G,hjp]
 rcases ek (r%p) with hz|hz
 ·refine ⟨j-r,G,λe he=> ?_,?_⟩
  ·rw [hm e G,hm (r+e) G];congr 1;rw[Jm,hz,og,Nat.mod_mod]
  ·rw [show r+(j-r)=j by omega]
   have e1:(j-r)%p=j%p:=by
    have:j=r+(j-r):=G
    conv=>rhs;rw[this,Jm,hz,og,Nat.mod_mod]
   rcases gm 0 r with _|_
   ·rw[hm (j-r) G,e1,<-Pw];exact bp
   ·omega
 ·obtain ⟨d0,hd,r8,hl⟩:=hL (r%p) hz (yh _ hp);rcases gm (r+d0) j with a|a
  ·refine ⟨d0,G,λe he=> ?_,?_⟩
   ·rw[hq e G G];exact r8 e he
   ·rw[hq d0 a hd];exact hl
  ·refine ⟨j-r,G,λe he=> ?_,?_⟩
   ·rw[hq e G G];exact r8 e G
   ·rw [show r+(j-r)=j by omega]
    have e1:j%p=r%p+(j-r):=by
     have:j=r+(j-r):=G
     conv=>lhs;rw[this,Jm,lh (a:=j-r) G]
     exact lh G
    rw[e1] at Pw
    have:f (j-r)<=f (r%p+(j-r)):=by
     rcases gm (j-r) d0 with b|b
     ·exact Int.le_of_eq (r8 _ b)
     ·have:j-r=d0:=G
      rw[this];omega
    omega
theorem aOi {f:Nat->Int} {p j n:Nat} (hp:0<p) (nb:xV f p j) (Lj:p<=j) (g8:j<n->f j<f (j-p)) {m:Nat} (Zp:p<m) (hm:m<=n): ¬Lyn f m:=by
 rintro⟨_,h⟩;obtain⟨d,hd,r8,hl⟩:=h p hp Zp;rcases gm (p+d) j with a|a
 ·have:=nb d G;rw[um p d,this] at hl;omega
 ·have hs:=g8 G;rcases gm (j-p) d with b|b
  ·have:=r8 _ b;rw[show p+(j-p)=j by omega] at this;omega
  ·rw [show j-p=d by omega] at hs;rw[show p+d=j by omega] at hl;omega
def lt (s:AH) (i:Nat):Int:=s.getD i 0
theorem nI: ∀(u v:AH),v.length<u.length->(cmpL u v<0↔ ∃d,d<v.length/\(∀e,e<d->lt u e=lt v e)/\lt u d<lt v d)
 |[],v,h=>by simp at h
 |a::u,[],h=>by simp[cmpL]
 | a::u,b::v,h=>by
  have ih:=nI u v (by simpa using h);rw[cmpL];rcases jk a b with c|c|c
  ·rw [di c];exact⟨λ_=>⟨0,cD,λe he=>G,c⟩,λ_=>G⟩
  ·subst c;rw[df G,df G,ih];constructor
   ·rintro ⟨d,h1,h2,h3⟩;refine⟨d+1,by simpa using h1,λe he=> ?_,h3⟩;cases e with
    |zero=>rfl
    |succ e=>exact h2 e G
   ·rintro ⟨d,h1,h2,h3⟩;cases d with
    |zero=>exact absurd h3 (by simp[lt])
    |succ d=>exact⟨d,by simpa using h1,λe he=>h2 (e+1) G,h3⟩
  ·rw [df G,di c];refine⟨λh=>G,?_⟩;rintro⟨d,h1,h2,h3⟩;cases d with
   |zero=>have:a<b:=h3;omega
   |succ d=>have:a=b:=h2 0 G;omega
theorem jG (s:AH) (a i:Nat):lt (s.drop a) i=lt s (a+i):=by simp[lt,ai]
theorem lt_take {s:AH} {a i:Nat} (h:i<a):lt (s.take a) i=lt s i:=by simp[lt,ai,h]
theorem NI {s:AH} {i:Int}:rd s i=lt s i.toNat:=rfl
def pW (s:AH):Bool:= !s.isEmpty && (List.range s.length).all λr=>Nat.beq r 0||decide (cmpL s (s.drop r)<0)
theorem kY (s:AH):pW s=true↔0<s.length/\ ∀r:Nat,0<r->r<s.length->cmpL s (s.drop r)<0:=by
 unfold pW;rw[qi,xc];have e:(!s.isEmpty)=true↔0<s.length:=by cases s<;>simp
 rw[e];refine and_congr_right λ_=>⟨λh r h0 hr=> ?_,λh r hr=> ?_⟩
 ·have:=h r (jw.2 hr);rw[Ar,il] at this;rcases this with a|a
  ·have:=yf a;omega
  ·exact a
 ·rw [Ar,il];rcases ek r with a|a
  ·left;subst a;rfl
  ·exact .inr (h r a (jw.1 hr))
theorem aCk (s:AH) (a p:Nat) (h:a+p<=s.length):pW ((s.drop a).take p)=true↔Lyn (λi=>lt s (a+i)) p:=by
 have hl:((s.drop a).take p).length=p:=by rw[ax,az];omega
 rw[kY,hl];unfold Lyn;refine and_congr_right λ_=>forall_congr' λr=>forall_congr' λh0=>forall_congr' λhr=> ?_;rw[nI _ _ (by rw[az,hl];omega),az,hl];constructor
 ·rintro ⟨d,h1,h2,h3⟩;refine⟨d,G,λe he=> ?_,?_⟩
  ·have:=h2 e he;rwa[jG,lt_take G,lt_take G,jG,jG] at this
  ·rwa[jG,lt_take G,lt_take G,jG,jG] at h3
 ·rintro ⟨d,h1,h2,h3⟩;refine⟨d,G,λe he=> ?_,?_⟩
  ·rw[jG,lt_take G,lt_take G,jG,jG];exact h2 e he
  ·rw[jG,lt_take G,lt_take G,jG,jG];exact h3
def iX (s:AH):Nat->Nat
 |0=>0
 |n+1=>if pW (s.take (n+1)) then n+1 else iX s n
theorem FY {s:AH} {p:Nat} (h:pW (s.take p)=true): ∀n,p<=n->(∀m,p<m->m<=n->pW (s.take m)=false)->iX s n=p
 |0,hp,_=>by unfold iX;omega
 | n+1,hp,hn=>by
  unfold iX;rcases gm p (n+1) with a|a
  ·rw [hn (n+1) a (dx _)];simp only[wu,xx];exact FY h n G λm h1 h2=>hn m h1 G
  ·have:p=n+1:=G
   subst this;rw[h,di rfl]
theorem ZR (s:AH) (h:0<s.length):pW (s.take 1)=true:=by
 cases s with
 |nil=>simp at h
 |cons a s=>rfl
theorem rC {s:AH} (h:0<s.length): ∀n,0<n->0<iX s n
 | n+1,_=>by
  unfold iX;split
  ·omega
  ·rename_i hh;cases n with
   |zero=>exact absurd (ZR s h) hh
   |succ n=>exact rC h (n+1) G
theorem SG (s:AH): ∀n,iX s n<=n
 |0=>dx _
 |n+1=>by
  unfold iX;split
  ·omega
  ·have:=SG s n;omega
def PZ:Nat->AH->AH
 |0,_=>[]
 |f+1,s=>if s.isEmpty then [] else(iX s s.length:Int)::PZ f (s.drop (iX s s.length))
def dN (s:AH):AH:=PZ s.length s
theorem TA: ∀(f g:Nat) (s:AH),s.length<=f->s.length<=g->PZ f s=PZ g s
 |0,g,s,h,_=>by
  have:s=[]:=Ah.1 G;subst this;cases g<;>rfl
 |f+1,0,s,_,h=>by
  have:s=[]:=Ah.1 G;subst this;rfl
 | f+1,g+1,s,h1,h2=>by
  unfold PZ;cases s with
  |nil=>rfl
  |cons a s=>
   simp only[Db,wu,xx];have:=rC (s:=a::s) cD (a::s).length cD;rw[TA f g _ (by rw[az];omega) (by rw[az];omega)]
theorem NT {s:AH} (h:s.length=0):dN s=[]:=by
 have:s=[]:=Ah.1 h;subst this;rfl
theorem GI {s:AH} (h:0<s.length):dN s=(iX s s.length:Int)::dN (s.drop (iX s s.length)):=by
 unfold dN;cases s with
 |nil=>simp at h
 |cons a s=>
  rw[show(a::s).length=s.length+1 from rfl,PZ];simp only[Db,wu,xx];have:=rC (s:=a::s) cD (a::s).length cD;rw[show s.length+1=(a::s).length from rfl];congr 1;exact TA _ _ _ (by rw[az];simp only[dn] at*;omega) (dx _)
theorem aOj {s:AH} {a p j:Nat} (hL:Lyn (λi=>lt s (a+i)) p) (nb:xV (λi=>lt s (a+i)) p j) (Lj:p<=j) (Vp:a+j<=s.length) (g8:a+j<s.length->lt s (a+j)<lt s (a+j-p)):iX (s.drop a) (s.drop a).length=p:=by
 have hp:=hL.1;refine FY ((aCk s a p G).2 hL) _ (by rw[az];omega) λm h1 h2=> ?_;rw[az] at h2;cases hb:pW ((s.drop a).take m) with
 |false=>rfl
 |true=>
  exact absurd ((aCk s a m G).1 hb) (aOi (f:=λi=>lt s (a+i)) (n:=s.length-a) hp nb Lj (λh=>by rw[show a+(j-p)=a+j-p by omega];exact g8 G) h1 h2)
theorem Lyn.over {s:AH} {a p j:Nat} (hL:Lyn (λi=>lt s (a+i)) p) (nb:xV (λi=>lt s (a+i)) p j) (Lj:p+p<=j):Lyn (λi=>lt s (a+p+i)) p:=by
 refine⟨hL.1,λr h0 hr=> ?_⟩;obtain⟨d,h1,h2,h3⟩:=hL.2 r h0 hr
 have e: ∀i,i<p->lt s (a+p+i)=lt s (a+i):=λi hi=>by
  have:=nb i G;rw[show a+p+i=a+(i+p) by omega];exact this
 refine⟨d,h1,λq hq=> ?_,?_⟩
 ·simp only at h2 ⊢;rw[e q G,e (r+q) G];exact h2 q hq
 ·simp only at h3 ⊢;rw[e d G,e (r+d) G];exact h3
theorem xV.over {s:AH} {a p j:Nat} (nb:xV (λi=>lt s (a+i)) p j) (Lj:p<=j):xV (λi=>lt s (a+p+i)) p (j-p):=by
 intro i hi;have:=nb (i+p) G;simp only at this ⊢;rw[show a+p+(i+p)=a+(i+p+p) by omega,show a+p+i=a+(i+p) by omega];exact this
theorem bAy (f:Nat->Int):Lyn f 1:=⟨G,λr h0 hr=>G⟩
theorem aSv (f:Nat->Int):xV f 1 1:=λi hi=>G
theorem aMe (f:Nat->Int) (p:Nat):xV f p p:=λi hi=>G
theorem xV.snoc {f:Nat->Int} {p j:Nat} (h:xV f p j) (Lj:p<=j) (he:f j=f (j-p)):xV f p (j+1):=by
 intro i hi;rcases gm (i+p) j with a|a
 ·exact h i a
 ·rw[show i+p=j by omega,he];congr 1;omega
section
variable {s:AH} {a i j b:Int}
def uG (s:AH) (a p:Int):Prop:=Lyn (λe=>lt s (a.toNat+e)) p.toNat
def uD (s:AH) (a p n:Int):Prop:=xV (λe=>lt s (a.toNat+e)) p.toNat n.toNat
theorem IQ:uG s a (a+1-a)/\uD s a (a+1-a) (a+1-a):=by
 unfold uG uD;rw[show(a+1-a).toNat=1 by omega];exact⟨bAy _,aSv _⟩
theorem aBb (h0:0<=a) (u3:a<=i) (pn:i<j) (hL:uG s a (j-i)) (hP:uD s a (j-i) (j-a)) (bp:rd s i<rd s j):uG s a (j+1-a)/\uD s a (j+1-a) (j+1-a):=by
 refine⟨?_,aMe _ _⟩;unfold uG
 have:=aWr hL hP G (by
  show lt s (a.toNat+((j-a).toNat-(j-i).toNat))<lt s (a.toNat+(j-a).toNat);rw[show a.toNat+((j-a).toNat-(j-i).toNat)=i.toNat by omega,show a.toNat+(j-a).toNat=j.toNat by omega]
  exact bp)
 rwa[show(j-a).toNat+1=(j+1-a).toNat by omega] at this
theorem aBc (h0:0<=a) (u3:a<=i) (pn:i<j) (hL:uG s a (j-i)) (hP:uD s a (j-i) (j-a)) (he:rd s i<=rd s j) (hn: ¬rd s i<rd s j):uG s a (j+1-(i+1))/\uD s a (j+1-(i+1)) (j+1-a):=by
 rw[show j+1-(i+1)=j-i by omega];refine⟨hL,?_⟩;unfold uD;rw[show(j+1-a).toNat=(j-a).toNat+1 by omega];refine xV.snoc hP G ?_;show lt s (a.toNat+(j-a).toNat)=lt s (a.toNat+((j-a).toNat-(j-i).toNat));rw[show a.toNat+((j-a).toNat-(j-i).toNat)=i.toNat by omega,show a.toNat+(j-a).toNat=j.toNat by omega];have:rd s i=rd s j:=G
 exact this.symm
theorem aOh (h0:0<=b) (sv:b<=i) (pn:i<j) (hj:j<=s.length) (hL:uG s b (j-i)) (hP:uD s b (j-i) (j-b)) (g8: ¬(j<s.length/\rd s i<=rd s j)):dN (s.drop b.toNat)=(j-i)::dN (s.drop (b+(j-i)).toNat):=by
 have hlen:=aOj hL hP G G λh=>by
  rw[show b.toNat+(j-b).toNat=j.toNat by omega,show j.toNat-(j-i).toNat=i.toNat by omega];have: ¬rd s i<=rd s j:=λhh=>g8 ⟨G,hh⟩;have:rd s j<rd s i:=G
  exact this
 have ff:0<(s.drop b.toNat).length:=by rw[az];omega
 rw[GI ff,hlen,Fv];rw[show((j-i).toNat:Int)=j-i by omega,show b.toNat+(j-i).toNat=(b+(j-i)).toNat by omega]
theorem aFw (h0:0<=b) (pn:i<j) (hL:uG s b (j-i)) (hP:uD s b (j-i) (j-b)) (h:b+(j-i)<=i):uG s (b+(j-i)) (j-i)/\uD s (b+(j-i)) (j-i) (j-(b+(j-i))):=by
 unfold uG uD;rw[show(b+(j-i)).toNat=b.toNat+(j-i).toNat by omega,show(j-(b+(j-i))).toNat=(j-b).toNat-(j-i).toNat by omega];exact⟨Lyn.over hL hP G,xV.over hP G⟩
end
theorem ZQ {s:AH} {n:Int} (h1:1<=n) (hn:n<=s.length) (h: ¬pW (s.take n.toNat)=true):1<=n-1/\iX s (n-1).toNat=iX s n.toNat:=by
 obtain⟨m,rfl⟩: ∃m:Nat,n=m+1:=⟨(n-1).toNat,G⟩;have e:((m:Int)+1).toNat=m+1:=G
 rw[e] at h;rw[e,show((m:Int)+1-1).toNat=m by omega,iX,df h];refine⟨?_,rfl⟩;rcases ek m with z|z
 ·subst z;exact absurd (ZR s G) h
 ·omega
theorem aEs {s:AH} {n:Int} (h1:1<=n) (h:pW (s.take n.toNat)=true):(iX s n.toNat:Int)=n:=by
 obtain⟨m,rfl⟩: ∃m:Nat,n=m+1:=⟨(n-1).toNat,G⟩;have e:((m:Int)+1).toNat=m+1:=G
 rw[e] at h;rw[e,iX,di h];omega
variable {s:AH} {i d h n b k:Nat}
theorem aTw {M:Nat} {U V:Nat->Int}:LtH (M+1) U V↔U 0<V 0\/U 0=V 0/\LtH M (λi=>U (i+1)) (λi=>V (i+1)):=by
 constructor
 ·rintro ⟨k,hk,h1,h2⟩;cases k with
  |zero=>exact .inl h2
  |succ k=>exact .inr ⟨h1 0 G,k,G,λi hi=>h1 (i+1) G,h2⟩
 ·rintro (h|⟨e,k,hk,h1,h2⟩)
  ·exact⟨0,G,λi hi=>G,h⟩
  ·refine ⟨k+1,G,λi hi=> ?_,h2⟩;cases i with
   |zero=>exact e
   |succ i=>exact h1 i G
def pad (m:Int) (l:AH) (d:Nat):Int:=if d<l.length then lt l d-m+1 else 0
theorem aBr (m:Int): ∀(a b:AH) (N:Nat),a.length<=N->b.length<=N->(∀x∈a,m<=x)->(∀x∈b,m<=x)->(cmpL a b<0↔LtH N (pad m a) (pad m b))
 |[],[],N,_,_,_,_=>by
  simp only[cmpL];refine⟨λh=>G,?_⟩;rintro⟨k,_,_,h⟩;simp[pad] at h
 |[],b::v,N,_,hb,_,mb=>by
  simp only[cmpL];have:=mb b cD;refine⟨λ_=>⟨0,by simp only[dn] at hb;omega,λi hi=>G,?_⟩,λ_=>G⟩;have e1:pad m [] 0=0:=rfl;have e2:pad m (b::v) 0=b-m+1:=by unfold pad;rw[di cD];rfl
  rw[e1,e2];omega
 | a::u,[],N,_,_,ma,_=>by
  simp only[cmpL];refine⟨λh=>G,?_⟩;rintro⟨k,_,_,h⟩;exfalso;have e1:pad m [] k=0:=by unfold pad;rw[df cD]
  rw[e1] at h;unfold pad at h;split at h
  ·rename_i hk
   have:m<=lt (a::u) k:=ma _ (by
    unfold lt;rw[ai,av hk]
    exact mg _)
   omega
  ·omega
 |a::u,b::v,0,h,_,_,_=>by simp at h
 | a::u,b::v,N+1,ha,hb,ma,mb=>by
  have ih:=aBr m u v N (by simpa using ha) (by simpa using hb) (λx hx=>ma x (fo _ hx)) (λx hx=>mb x (fo _ hx));have e0: ∀(x:Int) (xs:AH),pad m (x::xs) 0=x-m+1:=λx xs=>by unfold pad;rw[di cD];rfl
  have e1: ∀(x:Int) (xs:AH),(λi=>pad m (x::xs) (i+1))=pad m xs:=λx xs=>by
   funext i;unfold pad;by_cases h:i<xs.length
   ·rw[di (by simpa using h),di h];rfl
   ·rw[df (by simpa using h),df h]
  rw[cmpL,aTw,e0,e0,e1,e1];rcases jk a b with c|c|c
  ·rw [di c];exact⟨λ_=> .inl G,λ_=>G⟩
  ·subst c;rw[df G,df G,ih];exact⟨λh=> .inr ⟨rfl,h⟩,λh=>h.elim (λh=>G) λh=>h.2⟩
  ·rw [df G,di c];exact⟨λh=>G,λh=>h.elim (λh=>G) λh=>G⟩
def lo (s:AH):Int:=s.foldr min 0
theorem aUa: ∀ {s:AH} {x:Int},x∈s->lo s<=x
 | a::s,x,h=>by
  unfold lo;rw[List.foldr_cons];rcases jc.1 h with rfl|h
  ·exact Int.min_le_left _ _
  ·have:=aUa h;unfold lo at this;omega
def eu (s:AH) (i d:Nat):Int:=if i+d<s.length then lt s (i+d)-lo s+1 else 0
theorem bGv (h:i<s.length):lt s i∈s:=by
 unfold lt;rw[ai,av h];exact mg _
theorem sP (h:i+d<s.length):0<eu s i d:=by
 have:=aUa (bGv h);unfold eu;rw[di h];omega
theorem jO (h:s.length<=i+d):eu s i d=0:=by unfold eu;rw[df G]
theorem xH (s:AH) (i b d:Nat):eu s (i+b) d=eu s i (b+d):=by unfold eu;rw[mo]
def uA (s:AH) (i h:Nat):AH:=(s.drop i).take h
theorem aBf (hd:d<h):pad (lo s) (uA s i h) d=eu s i d:=by
 unfold pad eu uA;rw[ax,az];by_cases c:i+d<s.length
 ·rw[di G,di c,lt_take hd,jG]
 ·rw[df G,df c]
theorem aMq {H:Nat} {U U' V V':Nat->Int} (h1: ∀i,i<H->U i=U' i) (h2: ∀i,i<H->V i=V' i):LtH H U V↔LtH H U' V':=by
 constructor
 ·rintro ⟨k,hk,a,b⟩;exact⟨k,hk,λi hi=>by rw[<-h1 i G,<-h2 i G];exact a i hi,by rw[<-h1 k hk,<-h2 k hk];exact b⟩
 ·rintro ⟨k,hk,a,b⟩;exact⟨k,hk,λi hi=>by rw[h1 i G,h2 i G];exact a i hi,by rw[h1 k hk,h2 k hk];exact b⟩
theorem xL (s:AH) (i k h:Nat):cmpL (uA s i h) (uA s k h)<0↔LtH h (eu s i) (eu s k):=by
 have hm: ∀j,∀x∈uA s j h,lo s<=x:=λj x hx=>aUa (ny (lc hx));rw[aBr (lo s) _ _ h (by unfold uA;rw[ax];omega) (by unfold uA;rw[ax];omega) (hm i) (hm k)];exact aMq (λd hd=>aBf hd) λd hd=>aBf hd
theorem bAz {U V:Nat->Int} (hb:b<=n):LtH (n+b) U V↔LtH n U V\/EqH n U V/\LtH n (λi=>U (b+i)) (λi=>V (b+i)):=by
 constructor
 ·rintro ⟨k,hk,h1,h2⟩;rcases gm k n with a|a
  ·exact .inl ⟨k,a,h1,h2⟩
  ·refine .inr ⟨λi hi=>h1 i G,k-b,G,λi hi=>h1 (b+i) G,?_⟩;show U (b+(k-b))<V (b+(k-b));rw[show b+(k-b)=k by omega];exact h2
 ·rintro (h|⟨e,k,hk,h1,h2⟩)
  ·exact h.mono G
  ·refine ⟨b+k,G,λi hi=> ?_,h2⟩;rcases gm i n with a|a
   ·exact e i a
   ·have:=h1 (i-b) G;simp only at this;rwa[show b+(i-b)=i by omega] at this
theorem bBu {U V:Nat->Int} (hb:b<=n):EqH (n+b) U V↔EqH n U V/\EqH n (λi=>U (b+i)) (λi=>V (b+i)):=by
 constructor
 ·exact λe=>⟨λi hi=>e i G,λi hi=>e (b+i) G⟩
 ·rintro ⟨e,f⟩ i hi;rcases gm i n with a|a
  ·exact e i a
  ·have:=f (i-b) G;simp only at this;rwa[show b+(i-b)=i by omega] at this
def rkS (s:AH) (h i:Nat):Nat:=(List.range s.length).countP λk=>decide (cmpL (uA s k h) (uA s i h)<0)
theorem sS {α:Type} {p q:α->Bool}: ∀ {l:List α},(∀x∈l,p x=true->q x=true)->(∃x∈l,p x=false/\q x=true)->l.countP p<l.countP q
 |[],_,h=>by obtain⟨x,hx,_⟩:=h;cases hx
 | a::l,h,hx=>by
  have hl:l.countP p<=l.countP q:=Dq λx hx=>h x (fo _ hx);obtain⟨x,hm,h1,h2⟩:=hx;rw[List.countP_cons,List.countP_cons];rcases jc.1 hm with rfl|hm
  ·rw[h1,h2];simp;omega
  ·have ih:=sS (λy hy=>h y (fo _ hy)) ⟨x,hm,h1,h2⟩;have ha:=h a cD;cases hp:p a with
   |false=>cases q a<;>simp<;>omega
   |true=>rw[ha hp];simp;omega
theorem wH (hi:i<s.length):rkS s h i<rkS s h k↔LtH h (eu s i) (eu s k):=by
 constructor
 ·intro hr;rcases tri h (eu s i) (eu s k) with a|a|a
  ·exact a
  ·exfalso
   have:rkS s h k<=rkS s h i:=Dq λx _ hx=>by
    rw[il,xL] at hx ⊢;exact hx.eq_right a.symm
   omega
  ·exfalso
   have:rkS s h k<=rkS s h i:=Dq λx _ hx=>by
    rw[il,xL] at hx ⊢;exact hx.trans a
   omega
 ·intro hl;refine sS (λx _ hx=> ?_) ⟨i,jw.2 hi,?_,?_⟩
  ·rw [il,xL] at hx ⊢;exact hx.trans hl
  ·rw [uq,xL];exact λh=>h.asymm h
  ·rw [il,xL];exact hl
theorem aHw (hi:i<s.length) (hk:k<s.length):rkS s h i=rkS s h k↔EqH h (eu s i) (eu s k):=by
 constructor
 ·intro he;rcases tri h (eu s i) (eu s k) with a|a|a
  ·have:=(wH hi).2 a;omega
  ·exact a
  ·have:=(wH hk).2 a;omega
 ·intro he;rcases xw (rkS s h i) (rkS s h k) with a|a|a
  ·exact absurd he ((wH hi).1 a).not_eq
  ·exact a
  ·exact absurd he.symm ((wH hk).1 a).not_eq
def tH (s:AH) (n i:Nat):Nat:=if i<s.length then rkS s n i+1 else 0
theorem BV (hn:0<n):tH s n i<tH s n k↔LtH n (eu s i) (eu s k):=by
 unfold tH;by_cases hi:i<s.length
 ·by_cases hk:k<s.length
  ·rw[di hi,di hk,<-wH hi];omega
  ·rw [di hi,df hk];refine⟨λh=>G,?_⟩;rintro⟨d,_,_,h2⟩;rw[jO (s:=s) (i:=k) G] at h2;rcases gm (i+d) s.length with a|a
   ·have:=sP a;omega
   ·rw[jO a] at h2;omega
 ·by_cases hk:k<s.length
  ·rw [df hi,di hk];refine⟨λ_=>⟨0,hn,λd hd=>G,?_⟩,λ_=>G⟩;rw[jO G];exact sP G
  ·rw [df hi,df hk];refine⟨λh=>G,?_⟩;rintro⟨d,_,_,h2⟩;rw[jO (s:=s) (i:=k) G,jO G] at h2;omega
theorem aZn (hn:0<n):tH s n i=tH s n k↔EqH n (eu s i) (eu s k):=by
 constructor
 ·intro he;rcases tri n (eu s i) (eu s k) with a|a|a
  ·have:=(BV hn).2 a;omega
  ·exact a
  ·have:=(BV hn).2 a;omega
 ·intro he;rcases xw (tH s n i) (tH s n k) with a|a|a
  ·exact absurd he ((BV hn).1 a).not_eq
  ·exact a
  ·exact absurd he.symm ((BV hn).1 a).not_eq
theorem aDu (hn:0<n) (hb:b<=n) (hi:i<s.length) (hk:k<s.length):rkS s (n+b) i<rkS s (n+b) k↔rkS s n i<rkS s n k\/rkS s n i=rkS s n k/\tH s n (i+b)<tH s n (k+b):=by
 rw[wH hi,bAz hb,wH hi,aHw hi hk,BV hn];have e: ∀j,eu s (j+b)=λd=>eu s j (b+d):=λj=>funext λd=>xH s j b d;rw[e,e]
theorem LV (hn:0<n) (hb:b<=n) (hi:i<s.length) (hk:k<s.length):rkS s (n+b) i=rkS s (n+b) k↔rkS s n i=rkS s n k/\tH s n (i+b)=tH s n (k+b):=by
 rw[aHw hi hk,bBu hb,aHw hi hk,aZn hn];have e: ∀j,eu s (j+b)=λd=>eu s j (b+d):=λj=>funext λd=>xH s j b d;rw[e,e]
theorem bFv {i:Nat} {o:List Nat} (hp:o.Perm (List.range s.length)) (hs:o.Pairwise λx y=>rkS s h x<=rkS s h y) (hi:i<o.length) (Oq: ∀(hz:0<i),rkS s h (o[i-1]' G)≠rkS s h o[i]):rkS s h o[i]=i:=by
 have hm: ∀x∈o,x<s.length:=λx hx=>jw.1 (hp.subset hx)
 have e:rkS s h o[i]=o.countP λk=>decide (rkS s h k<rkS s h o[i]):=by
  have e1:rkS s h o[i]=o.countP λk=>decide (cmpL (uA s k h) (uA s o[i] h)<0):=by
   unfold rkS;rw[<-hp.countP_eq]
  rw[e1];refine Gq λx hx=> ?_;rw[il,il,xL,<-wH (hm x hx),<-e1]
 rw[e];have Zy:o=o.take i++o.drop i:=(gy i o).symm
 have h1:(o.take i).countP (λk=>decide (rkS s h k<rkS s h o[i]))=i:=by
  have:(o.take i).length=i:=by rw[ax];omega
  conv=>rhs;rw[<-this]
  rw[List.countP_eq_length];intro x hx;rw[il];obtain⟨j,hj,rfl⟩:=gz.1 hx;rw[ax] at hj;rw[xq];have hz:0<i:=G
  have hprev:=Oq hz;have ox:rkS s h (o[i-1]' G)<=rkS s h o[i]:=ed.1 hs (i-1) i G hi G;rcases gm j (i-1) with a|a
  ·have:=ed.1 hs j (i-1) G G a;omega
  ·have:j=i-1:=G
   subst this;omega
 have h2:(o.drop i).countP (λk=>decide (rkS s h k<rkS s h o[i]))=0:=by
  rw[Bt];intro x hx;rw[il];obtain⟨j,hj,rfl⟩:=gz.1 hx;rw[az] at hj;rw[zx];rcases ek j with z|z
  ·subst z;simp
  ·have:=ed.1 hs i (i+j) hi G G;omega
 have h3:(o.take i++o.drop i).countP (λk=>decide (rkS s h k<rkS s h o[i]))=i:=by rw[List.countP_append,h1,h2,qp]
 rwa[gy] at h3
theorem wW {w:Int} {j:Nat} {t:Int × Int}:t∈turnsOf w j↔t.1=w/\0<=t.2/\t.2<j:=by
 unfold turnsOf;rw[ii];constructor
 ·rintro ⟨i,hi,rfl⟩;rw[jw] at hi;exact⟨rfl,by simp only;omega,by simp only;omega⟩
 ·rintro ⟨rfl,h1,h2⟩;refine⟨t.2.toNat,jw.2 G,?_⟩;rw[lm h1]
theorem yK {ws:AD} {t:Int × Int}: ∀ {k:Nat},t∈fG ws k↔(0<=t.1/\t.1<k)/\0<=t.2/\t.2<(rdl ws t.1).length
 |0=>by
  constructor
  ·intro h;cases h
  ·rintro⟨h,_⟩;omega
 | k+1=>by
  show t∈fG ws k++turnsOf k (rdl ws k).length↔_;rw[dz,yK,wW];constructor
  ·rintro (⟨h1,h2⟩|⟨h1,h2,h3⟩)
   ·exact⟨⟨h1.1,G⟩,h2⟩
   ·rw[h1];exact⟨⟨G,G⟩,h2,h3⟩
  ·rintro ⟨h1,h2,h3⟩;by_cases e:t.1=k
   ·exact .inr ⟨e,h2,by rw[e] at h3;exact h3⟩
   ·exact .inl ⟨⟨h1.1,G⟩,h2,h3⟩
theorem sD {ws:AD} {t:Int × Int}:t∈fG ws ws.length↔TV ws t:=by
 rw[yK];unfold TV;constructor
 ·rintro⟨⟨a,b⟩,c,d⟩;exact⟨a,b,c,d⟩
 ·rintro⟨a,b,c,d⟩;exact⟨⟨a,b⟩,c,d⟩
theorem PK (w:Int) (j:Nat):(turnsOf w j).Nodup:=by
 unfold turnsOf;refine ik.2 ((xe (n:=j)).imp λ{a b} h e=>h ?_);simp only[Ad,Ak] at e;omega
theorem vW (ws:AD): ∀k,(fG ws k).Nodup
 |0=> .nil
 |k+1=>by
  refine xu.2 ⟨vW ws k,PK _ _,λa ha b hb e=> ?_⟩;subst e;have h1:=(yK.1 ha).1;have h2:=(wW.1 hb).1;omega
theorem RX {ws:AD} {i j:Nat} (h:i<=j):oH ws i<=oH ws j:=by
 unfold oH;obtain⟨d,rfl⟩: ∃d,j=i+d:=⟨j-i,G⟩;rw[Ht,lq,ah];omega
theorem YT {ws:AD} {k:Nat} {i:Int} (h0:0<=i) (h:i<k):rd (sJ ws k) i=oH ws i.toNat:=by
 have hi:i.toNat<k:=G
 simp[rd,sJ,ai,hi]
theorem aZv {ws:AD} {w j:Int} (h0:0<=w) (h1:w<ws.length) (h2:0<=j) (h3:j<(rdl ws w).length):rd ws.flatten (oH ws w.toNat+j)=rd (rdl ws w) j:=by
 have e:ws.flatten=(ws.take w.toNat).flatten++(ws.drop w.toNat).flatten:=by
  rw[<-lq,gy]
 rw[e,aSj h0 h1,qj];unfold rd;rw[ai,ji (by unfold oH;omega),jl (by unfold oH;omega),ai];congr 2;unfold oH;omega
theorem VH {ws:AD} {t:Int × Int} (ht:TV ws t):iM (sJ ws ws.length) t=oH ws t.1.toNat+t.2:=by
 unfold iM;rw[YT ht.1 ht.2.1]
theorem aSu {ws:AD} {t u:Int × Int} (ht:TV ws t) (hu:TV ws u) (h:iM (sJ ws ws.length) t=iM (sJ ws ws.length) u):t=u:=by
 rw[VH ht,VH hu] at h;obtain⟨a1,a2,a3,a4⟩:=ht;obtain⟨b1,b2,b3,b4⟩:=hu;have o1:=kI a1 a2;have o2:=kI b1 b2
 have e:t.1=u.1:=by
  rcases jk t.1 u.1 with x|x|x
  ·have:=RX (ws:=ws) (show(t.1+1).toNat<=u.1.toNat by omega);omega
  ·exact x
  ·have:=RX (ws:=ws) (show(u.1+1).toNat<=t.1.toNat by omega);omega
 rw[e] at h;exact Prod.ext e G
theorem bCy {ws:AD} (hN:ws.flatten.length<=1000000) {t:Int × Int} (ht:TV ws t):TOk ws (sJ ws ws.length) ws.flatten.length t:=by
 obtain⟨a1,a2,a3,a4⟩:=ht;have o1:=kI a1 a2;have o2:=JV ws (t.1+1).toNat;have e:=YT (ws:=ws) a1 a2;have hb:=TU ws ws.length;refine⟨⟨a1,a2,G⟩,⟨a3,a4,G⟩,G,?_⟩;rw[e];omega
theorem aRo (ws:AD):RK ws (sJ ws ws.length) 1 ws.flatten:=by
 intro t u ht hu
 have one: ∀t,TV ws t->rd ws.flatten (iM (sJ ws ws.length) t)=tw ws t 0:=by
  intro t ht;rw[VH ht,aZv ht.1 ht.2.1 ht.2.2.1 ht.2.2.2];obtain⟨a1,a2,a3,a4⟩:=ht;unfold tw rd;rw[qp,lh G]
 rw[one t ht,one u hu];constructor
 ·constructor
  ·exact λh=>⟨0,G,λi hi=>G,h⟩
  ·rintro ⟨k,hk,_,h⟩;obtain rfl:k=0:=G
   exact h
 ·constructor
  ·intro h i hi;obtain rfl:i=0:=G
   exact h
  ·exact λh=>h 0 G
theorem aQh {ws:AD} (t:Int × Int):Per (tw ws t) (rdl ws t.1).length:=by
 intro i;unfold tw;rw[<-mo,Gt]
def jF (ws:AD) (t u:Int × Int):Prop:=Lt (tw ws t) (tw ws u)\/(∀i,tw ws t i=tw ws u i)/\ltI t u
theorem aTb {ws:AD} {M:Nat} {t u:Int × Int} (hM:EqH M (tw ws t) (tw ws u)-> ∀i,tw ws t i=tw ws u i):aTe ws M t u↔jF ws t u:=by
 unfold aTe jF;constructor
 ·rintro (⟨k,_,h1,h2⟩|⟨e,h⟩)
  ·exact .inl ⟨k,h1,h2⟩
  ·exact .inr ⟨hM e,h⟩
 ·rintro (⟨k,h1,h2⟩|⟨e,h⟩)
  ·rcases tri M (tw ws t) (tw ws u) with a|a|⟨m,_,g1,g2⟩
   ·exact .inl a
   ·have:=hM a k;omega
   ·exfalso;by_cases x:k<m
    ·have:=g1 k x;omega
    ·by_cases y:m<k
     ·have:=h1 m y;omega
     ·have:k=m:=G
      subst this;omega
  ·exact .inr ⟨λi _=>e i,h⟩
theorem aAs {ws:AD} {M:Nat} {t u:Int × Int} (ht:TV ws t) (hu:TV ws u) (hM:(rdl ws t.1).length+(rdl ws u.1).length<=M) (h:EqH M (tw ws t) (tw ws u)): ∀i,tw ws t i=tw ws u i:=by
 obtain⟨a1,a2,a3,a4⟩:=ht;obtain⟨b1,b2,b3,b4⟩:=hu;exact agree G G (aQh t) (aQh u) λi hi=>h i G
theorem aAr {ws:AD} {h:Int} (h0:0<h) (ge: ∀t u,TV ws t->TV ws u->EqH (nH h) (tw ws t) (tw ws u)->EqH (gV h) (tw ws t) (tw ws u)) {t u:Int × Int} (ht:TV ws t) (hu:TV ws u) (he:EqH (nH h) (tw ws t) (tw ws u)): ∀i,tw ws t i=tw ws u i:=by
 have e1:nH h=h.toNat:=by unfold nH;omega
 have e2:gV h=h.toNat+h.toNat:=by unfold gV;rw[df G];omega
 rw[e1,e2] at ge;rw[e1] at he;intro i
 induction i using Nat.strongRecOn generalizing t u with
 | _ i ih=>
  by_cases hi:i<h.toNat
  ·exact he i hi
  ·have h2:=(aJa.1 (ge t u ht hu he)).2;have f1:(λi=>tw ws t (i+h.toNat))=tw ws (sh ws t h):=funext λi=>(QO ht G i).symm;have f2:(λi=>tw ws u (i+h.toNat))=tw ws (sh ws u h):=funext λi=>(QO hu G i).symm;rw[f1,f2] at h2;have:=ih (i-h.toNat) G (aHr ht) (aHr hu) h2;rw[QO ht G,QO hu G,rq G] at this;exact this
theorem dJ {l:AH} {j:Int} (h0:0<=j) (h:j<l.length):l.take (j+1).toNat=l.take j.toNat++[rd l j]:=by
 have hl:j.toNat<l.length:=G
 rw[show(j+1).toNat=j.toNat+1 by omega,qm,av hl];simp[rd,ai,av hl]
theorem bBb (t u:Int × Int):ltI t u\/t=u\/ltI u t:=by
 unfold ltI;rcases jk t.1 u.1 with a|a|a
 ·exact .inl (.inl a)
 ·rcases jk t.2 u.2 with b|b|b
  ·exact .inl (.inr ⟨a,b⟩)
  ·exact .inr (.inl (Prod.ext a b))
  ·exact .inr (.inr (.inr ⟨a.symm,b⟩))
 ·exact .inr (.inr (.inl a))
theorem Sorted.toO {ws:AD} {M:Nat} {l:AE} (s:Sorted ws M l) (hM: ∀t u,TV ws t->TV ws u->EqH M (tw ws t) (tw ws u)-> ∀i,tw ws t i=tw ws u i):l.Pairwise (jF ws):=by
 refine(s.pw.and s.nodup).imp_of_mem λ{x y} hx hy h=> ?_;have Lu:=aTb (hM x y (s.tv x hx) (s.tv y hy));rw[<-Lu];rcases tri M (tw ws x) (tw ws y) with a|a|a
 ·exact .inl a
 ·rcases bBb x y with b|b|b
  ·exact .inr ⟨a,b⟩
  ·exact absurd b h.2
  ·exact absurd (.inr ⟨a.symm,b⟩) h.1
 ·exact absurd (.inl a) h.1
theorem stay {ws:AD} {bs rs:AH} {h w:Int} {l lo:AE} (h0:0<h) (hr:RK ws bs (nH h) rs) (s:Sorted ws (gV h) l) (ka: ∀t,TV ws t->t∈l) (hp:l.Perm lo) (st:Steps bs rs lo w) (hw:iU ws bs rs h l (l.length-1)=w):l.Pairwise (jF ws):=by
 have Ps:nH h<=gV h:=by unfold nH gV;rw[df G];omega
 refine s.toO λt u ht hu e=>aAr h0 (λt u ht hu e=> ?_) ht hu (e.mono Ps);obtain⟨i,hi,rfl⟩:=gz.1 (ka t ht);obtain⟨j,hj,rfl⟩:=gz.1 (ka u hu);rw[<-pE hi,<-pE hj] at e ⊢;exact bAp h0 hr s hp st hw hi hj e
theorem LB {l:AE} {j:Int} (h0:0<=j) (h:j<l.length):l.take (j+1).toNat=l.take j.toNat++[rdp l j]:=by
 have hl:j.toNat<l.length:=G
 rw[show(j+1).toNat=j.toNat+1 by omega,qm,av hl];simp[rdp,ai,av hl]
theorem FW {α:Type} {r:α->α->Prop} (Lw: ∀x y,r x y-> ¬r y x): ∀ {a b:List α},a.Perm b->a.Pairwise r->b.Pairwise r->a=b
 |[],b,h,_,_=>(List.nil_perm.1 h).symm
 |x::a,[],h,_,_=>absurd h.symm cD
 | x::a,y::b,h,ha,hb=>by
  have e:x=y:=by
   rcases jc.1 (h.mem_iff.1 (.head _)) with e|e
   ·exact e
   ·have h1:=(ja.1 hb).1 x e;rcases jc.1 (h.mem_iff.2 (.head _)) with e2|e2
    ·exact e2.symm
    ·exact absurd h1 (Lw _ _ ((ja.1 ha).1 y e2))
  subst e;rw[FW Lw ((List.perm_cons x).1 h) (ja.1 ha).2 (ja.1 hb).2]
end Go.Pure
namespace Go.Pure
open Go Go.Eng
theorem bAk {w:AH} {i:Nat} (hi:i<w.length) (j:Nat):om (w.drop i++w.take i) j=w.getD ((i+j)%w.length) 0:=by
 have hl:(w.drop i++w.take i).length=w.length:=by rw[ah,az,ax];omega
 have hm:=yh j (show 0<w.length by omega);unfold om;rw[hl,ai,ai];congr 1;have e:(i+j)%w.length=(i+j%w.length)%w.length:=by rw[Nat.add_mod_mod]
 rw[e];clear e;generalize j%w.length=r at hm ⊢;by_cases h:r<w.length-i
 ·have e2:(i+r)%w.length=i+r:=lh G;rw[jl (by rw[az];exact h),qz,e2]
 ·have e2:(i+r)%w.length=i+r-w.length:=by rw[zi G,lh G]
  rw[ji (by rw[az];omega),az,ou,di G,e2];congr 1;omega
theorem bDv {ws:AD} {t:Int × Int} (ht:TV ws t) (j:Nat):om ((rdl ws t.1).drop t.2.toNat++(rdl ws t.1).take t.2.toNat) j=tw ws t j:=by
 obtain⟨a,b,c,d⟩:=ht;rw[bAk G];rfl
end Go.Pure
namespace Go.Pure
open Go Go.Eng
variable {ws:AD} {l:AE} {j:Nat}
theorem Lt.of_H {H:Nat} {U V:Nat->Int} (h:LtH H U V):Lt U V:=by
 obtain⟨k,_,r⟩:=h;exact⟨k,r⟩
theorem wZ (U V:Nat->Int):Lt U V\/(∀i,U i=V i)\/Lt V U:=by
 by_cases h: ∀i,U i=V i
 ·exact .inr (.inl h)
 ·obtain ⟨k,hk⟩:=Eg.1 h;rcases tri (k+1) U V with a|a|a
  ·exact .inl (Lt.of_H a)
  ·exact absurd (a k G) hk
  ·exact .inr (.inr (Lt.of_H a))
theorem Lt.asymm {U V:Nat->Int} (h:Lt U V): ¬Lt V U:=by
 obtain⟨k,h1,hl⟩:=h;rintro⟨m,h2,Qb⟩;by_cases a:k<m
 ·have:=h2 k a;omega
 ·by_cases b:m<k
  ·have:=h1 m b;omega
  ·have:k=m:=G
   subst this;omega
theorem Lt.not_eq {U V:Nat->Int} (h:Lt U V): ¬ ∀i,U i=V i:=λe=>by
 obtain⟨k,_,hl⟩:=h;have:=e k;omega
theorem ZI {t u:Int × Int} (h: ¬Lt (tw ws t) (tw ws u)) (hi:ltI u t):jF ws u t:=by
 rcases wZ (tw ws u) (tw ws t) with a|a|a
 ·exact .inl a
 ·exact .inr ⟨a,hi⟩
 ·exact absurd a h
theorem aEl (t u:Int × Int) (h:jF ws t u): ¬jF ws u t:=by
 rcases h with h|⟨e,h⟩
 ·rintro (g|⟨e,g⟩)
  ·exact h.asymm g
  ·exact h.not_eq λi=>(e i).symm
 ·rintro (g|⟨e',g⟩)
  ·exact g.not_eq λi=>(e i).symm
  ·unfold ltI at h g;omega
theorem MW {t u v:Int × Int} (h:jF ws t u) (g:jF ws u v):jF ws t v:=by
 rcases h with⟨k,h1,hl⟩|⟨e,h⟩
 ·rcases g with g|⟨e',_⟩
  ·exact .inl (Lt.trans ⟨k,h1,hl⟩ g)
  ·exact .inl ⟨k,λi hi=>(h1 i hi).trans (e' i),by rw[<-e' k];exact hl⟩
 ·rcases g with⟨k,h1,hl⟩|⟨e',g⟩
  ·exact .inl ⟨k,λi hi=>(e i).trans (h1 i hi),by rw[e k];exact hl⟩
  ·exact .inr ⟨λi=>(e i).trans (e' i),by unfold ltI at*;omega⟩
theorem aFe {x:Int × Int} {j:Nat} (hp:l.Pairwise (jF ws)) (h1: ∀y∈l.take j,jF ws y x) (h2: ∀y∈l.drop j,jF ws x y):(l.take j++[x]++l.drop j).Pairwise (jF ws):=by
 have hs:(l.take j++l.drop j).Pairwise (jF ws):=by rw[gy];exact hp
 obtain⟨a,b,c⟩:=kg.1 hs;refine kg.2 ⟨kg.2 ⟨a,pu _ _,λy hy z hz=> ?_⟩,b,λy hy z hz=> ?_⟩
 ·obtain rfl:=ic.1 hz;exact h1 y hy
 ·rcases dz.1 hy with hy|hy
  ·exact c y hy z hz
  ·obtain rfl:=ic.1 hy;exact h2 z hz
theorem aAa {α:Type} {l:List α} {x:α}:(l.take j++[x]++l.drop j).Perm (l++[x]):=by
 have h:(l.take j++[x]++l.drop j).Perm (l.take j++l.drop j++[x]):=by
  rw[gq,gq];exact zl _ uk
 rwa[gy] at h
theorem aPk {x:Int × Int} {j:Int} (hp:l.Pairwise (jF ws)) (h0:0<j) (hj:j<=l.length) (h:jF ws (rdp l (j-1)) x): ∀y∈l.take j.toNat,jF ws y x:=by
 intro y hy;obtain⟨i,hi,rfl⟩:=gz.1 hy;rw[ax] at hi;rw[xq];have po:(j-1).toNat<l.length:=G
 have e:rdp l (j-1)=l[(j-1).toNat]:=by
  unfold rdp;rw[ai,av po];rfl
 rw[e] at h;rcases gm i (j-1).toNat with a|a
 ·exact MW (ed.1 hp i (j-1).toNat G po a) h
 ·have:i=(j-1).toNat:=G
  subst this;exact h
theorem aBq {t u:Int × Int} (ht:TV ws t) (hu:TV ws u):OG ((rdl ws t.1).drop t.2.toNat++(rdl ws t.1).take t.2.toNat) ((rdl ws u.1).drop u.2.toNat++(rdl ws u.1).take u.2.toNat)<0↔Lt (tw ws t) (tw ws u):=by
 have e1:om ((rdl ws t.1).drop t.2.toNat++(rdl ws t.1).take t.2.toNat)=tw ws t:=funext (bDv ht);have e2:om ((rdl ws u.1).drop u.2.toNat++(rdl ws u.1).take u.2.toNat)=tw ws u:=funext (bDv hu)
 have l1:0<((rdl ws t.1).drop t.2.toNat++(rdl ws t.1).take t.2.toNat).length:=by
  obtain⟨a,b,c,d⟩:=ht;rw[ah,az,ax];omega
 have l2:0<((rdl ws u.1).drop u.2.toNat++(rdl ws u.1).take u.2.toNat).length:=by
  obtain⟨a,b,c,d⟩:=hu;rw[ah,az,ax];omega
 rw[aXc l1 l2,e1,e2]
variable {ws:AD} {w k j:Int} {U:AE}
theorem aTt {u:Int × Int} (uc:0<=w) (hw:w<ws.length) (hk:k<=(rdl ws w).length) (h:u∈fG ws w.toNat++turnsOf w k.toNat):TV ws u/\ltI u (w,k):=by
 rcases dz.1 h with h|h
 ·obtain ⟨⟨a,b⟩,c,d⟩:=yK.1 h;exact⟨⟨a,G,c,d⟩, .inl (by simp only;omega)⟩
 ·obtain ⟨a,b,c⟩:=wW.1 h;obtain⟨u1,u2⟩:=u;simp only at a b c;subst a;exact⟨⟨uc,hw,b,by simp only;omega⟩, .inr ⟨rfl,by simp only;omega⟩⟩
theorem LZ (uc:0<=w) (hw:w<ws.length) (hk:k<=(rdl ws w).length) (hp:U.Perm (fG ws w.toNat++turnsOf w k.toNat)) (i:Int) (h0:0<=i) (h:i<U.length):TV ws (rdp U i)/\ltI (rdp U i) (w,k):=
 aTt uc hw hk (hp.subset (jY h0 h))
def aHm (ws:AD) (t:Int × Int):AH:=(rdl ws t.1).drop t.2.toNat++(rdl ws t.1).take t.2.toNat
theorem aUv (uc:0<=w) (hw:w<ws.length) (ju:0<=k) (hk:k<(rdl ws w).length) (hp:U.Perm (fG ws w.toNat++turnsOf w k.toNat)) (sf:0<=j) (hj:j<=U.length)
  (vn: ∀i:Int,j<=i->i<U.length->jF ws (w,k) (rdp U i)) (h:0<j/\OG (aHm ws (w,k)) (aHm ws (rdp U (j-1)))<0): ∀i:Int,j-1<=i->i<U.length->jF ws (w,k) (rdp U i):=by
 intro i h1 h2;rcases bz i j with a|a
 ·have:i=j-1:=G
  subst this;exact .inl ((aBq ⟨uc,hw,ju,hk⟩ (LZ uc hw G hp (j-1) G h2).1).1 h.2)
 ·exact vn i a h2
theorem bBl (uc:0<=w) (hw:w<ws.length) (ju:0<=k) (hk:k<(rdl ws w).length) (hp:U.Perm (fG ws w.toNat++turnsOf w k.toNat)) (hs:U.Pairwise (jF ws)) (sf:0<=j) (hj:j<=U.length)
  (vn: ∀i:Int,j<=i->i<U.length->jF ws (w,k) (rdp U i)) (h: ¬(0<j/\OG (aHm ws (w,k)) (aHm ws (rdp U (j-1)))<0)):
  (U.take j.toNat++[(w,k)]++U.drop j.toNat).Perm (fG ws w.toNat++turnsOf w (k+1).toNat)/\(U.take j.toNat++[(w,k)]++U.drop j.toNat).Pairwise (jF ws):=by
 refine⟨?_,aFe hs ?_ ?_⟩
 ·rw [BG w ju,<-gq];exact aAa.trans (Da _ hp)
 ·rcases bz 0 j with a|a
  ·have hq:=LZ uc hw G hp (j-1) G G;refine aPk hs a hj (ZI (λhl=>h ⟨a,(aBq ⟨uc,hw,ju,hk⟩ hq.1).2 hl⟩) hq.2)
  ·intro y hy;rw[show j.toNat=0 by omega,zh] at hy;cases hy
 ·intro y hy;obtain⟨i,hi,rfl⟩:=gz.1 hy;rw[az] at hi;have bp:j.toNat+i<U.length:=G
  rw[zx];have:=vn (j+(i:Int)) G G
  have e:rdp U (j+(i:Int))=U[j.toNat+i]:=by
   unfold rdp;rw[show(j+(i:Int)).toNat=j.toNat+i by omega,ai,av bp];rfl
  rwa[e] at this
end Go.Pure
