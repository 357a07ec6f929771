/- The document's Begin, joined. -/
import Derived.Test.YtolmpehgeinlkaaGreatDoorZcOrJ
import Derived.Test.YtolmpehgeinlkaaGreatDoorZcOgT
namespace Go.Proofs.YtolmpehgeinlkaaGreatDoor
open Go.RowKit
open Go.Lib (hid)
attribute [local go_sem] Oper.semAt_some
set_option maxHeartbeats 2000000
set_option maxRecDepth 100000
abbrev QOrL0 (a0:Nat) (a1:Ob) (w':World):Prop:=w'.cell? ⟨a0,0,none⟩=some (.int .i64 a1.k)∧w'.cell? ⟨a0,1,none⟩=some (.int .i64 a1.wd)∧w'.cell? ⟨a0,2,none⟩=some (.int .i64 a1.s)∧w'.cell? ⟨a0,3,none⟩=some (.int .i64 a1.c)∧w'.cell? ⟨a0,4,none⟩=some (.int .u32 a1.st)∧w'.cell? ⟨a0,5,none⟩=some (.slice a1.I a1.ni a1.ci)∧w'.cell? ⟨a0,6,none⟩=some (.int .i64 a1.wr)∧w'.cell? ⟨a0,7,none⟩=some (.slice a1.R a1.nr a1.cr)
theorem step_cat {w:World} {ops:Array Oper} {o:Oper} {a:Act} {K:Act→World→Prop} {Q:Exit→Act→World→Prop} {E:Prop} (hgd:o.guard=none) (s x:Operand)
  (ho:o.op=.call { callee:=.builtin .append,args:=#[s,x],argTypes:=#[23,23] }) {base n:Nat} {v:Value} {xs:List Value} (h:w.ownsRow base 22 1 v n xs) (hs:a.eval s=v) {A:Option Addr} {m c B:Nat} {l:List Int} (hx:a.eval x=.slice A m c) (hm:m=l.length) (hw:Ws w B A l) (h1:n+l.length≤2000000) (hb:base≤w.heap.size)
  (hk:∀ v' w',w'.ownsRow base 22 1 v' (n+l.length) (xs++l.map (Value.int .u32))→w.grownBy w' v.ownBlock→(v'.ownBlock=v.ownBlock∨v'.ownBlock=some w.heap.size)→K (a.put o.dst v') w'):if Region.wanted o (yielded ops a.tmps)=true then Oper.wp Tryz.prog o a w K Q else E:=by
 subst hm;have hw':Region.wanted o (yielded ops a.tmps)=true:=by simp[Region.wanted,hgd]
 rw[if_pos hw'];obtain⟨v',w',hr,h2,h3,h4⟩:=cat_run w o.type h (c:=c) hw h1 hb;unfold Oper.wp execOp;simp only[ho,resolve,invoke,builtin,Sem.run_bind,Sem.run_pure,Result.andThen_ok,List.map_toArray,List.map_cons,List.map_nil,hs,hx,hr];exact hk v' w' h2 h3 h4
section
variable (o:Ob) (at' op rd:Int) (A:Option Addr) (cap:Nat) (r:List Int)
def newR (o:Ob) (at' op rd:Int) (rv:Value):Array Value:=#[.int .i64 o.k,.int .i64 o.wd,.int .i64 o.s,.int .i64 o.c,.int .u32 o.st,.slice o.I o.ni o.ci,.int .i64 o.wr,.slice o.R o.nr o.cr,.int .i64 at',.int .i64 op,.int .i64 rd,.int .i64 0,.int .i64 0,.int .i64 0,.int .i64 0,.int .i64 0,.int .u32 0,.int .u32 0,.bool false,.bool false,.bool false,.bool false,.bool false,.bool false,.bool false,.bool false,.bool false,.bool false,.bool false,.bool false,.bool false,.bool false,.bool false,.bool false,.bool false,.bool false,.bool false,.bool false,rv,.bool false]
theorem rbegin_right (w:World) (ho:o.Ok) (hR:¬ anyR o):Calls Tryz.prog 47 #[.agg (obA o),.int .i64 at',.int .i64 op,.int .i64 rd,.slice A r.length cap] w fun e w'=>e=.returned (.tuple #[.pointer none,.int .i64 1])∧Below w.heap.size w w':=by
 have HRT:=hid fun W=>r14Right_o o ho W
 unfold obA at HRT;have hany:decide (anyR o)=false:=decide_eq_false hR;obtain⟨n,hn0⟩:∃ n,w.heap.size=n:=⟨_,rfl⟩;have hn:=RowB.new w (obA o) 26;have hB:=(Below.refl w.heap.size w).alloc (Nat.le_refl _) (.cells (obA o) 26);rw[hn0] at hn hB;unfold obA at hn hB;have HN:=hid hn;have HB:=hid hB;have HNN:=hid hn0;clear hn hB ho;rw[hn0];unfold obA;go_enter Tryz.func47,Tryz.ntmps47;go_wp2_with fail;refine(HRT.out _).mono ?_;rintro e w1 ⟨rfl,hb1⟩;have HN1:=hid (HN.out.kept hb1);have HB1:=hid (HB.out.trans (hb1.mono (by rw[← HNN.out];exact HB.out.size)));clear hb1;have c0:=HN1.out.at 0 (.int .i64 o.k);have c1:=HN1.out.at 1 (.int .i64 o.wd);have c7:=HN1.out.at 7 (.slice o.R o.nr o.cr);go_wp2_with fail;go_ret2;exact⟨rfl,by first | exact HB1.out | (rw[← HNN.out];exact HB1.out)⟩
theorem rbegin_at (w:World) (ho:o.Ok) (hR:anyR o) (h2:at'<0):Calls Tryz.prog 47 #[.agg (obA o),.int .i64 at',.int .i64 op,.int .i64 rd,.slice A r.length cap] w fun e w'=>e=.returned (.tuple #[.pointer none,.int .i64 1])∧Below w.heap.size w w':=by
 have HRT:=hid fun W=>r14Right_o o ho W
 unfold obA at HRT;have hany:decide (anyR o)=true:=decide_eq_true hR;have d2:decide (at'<0)=true:=decide_eq_true h2;obtain⟨n,hn0⟩:∃ n,w.heap.size=n:=⟨_,rfl⟩;have hn:=RowB.new w (obA o) 26;have hB:=(Below.refl w.heap.size w).alloc (Nat.le_refl _) (.cells (obA o) 26);rw[hn0] at hn hB;unfold obA at hn hB;have HN:=hid hn;have HB:=hid hB;have HNN:=hid hn0;clear hn hB ho;rw[hn0];unfold obA;go_enter Tryz.func47,Tryz.ntmps47;go_wp2_with fail;refine(HRT.out _).mono ?_;rintro e w1 ⟨rfl,hb1⟩;have HN1:=hid (HN.out.kept hb1);have HB1:=hid (HB.out.trans (hb1.mono (by rw[← HNN.out];exact HB.out.size)));clear hb1;have c0:=HN1.out.at 0 (.int .i64 o.k);have c1:=HN1.out.at 1 (.int .i64 o.wd);have c7:=HN1.out.at 7 (.slice o.R o.nr o.cr);go_wp2_with fail;go_ret2;exact⟨rfl,by first | exact HB1.out | (rw[← HNN.out];exact HB1.out)⟩
theorem rbegin_call (w:World) (ho:o.Ok) (hR:anyR o) (h2:0≤at') (h3:op≠oA o.k) (h4:op≠oB o.k):Calls Tryz.prog 47 #[.agg (obA o),.int .i64 at',.int .i64 op,.int .i64 rd,.slice A r.length cap] w fun e w'=>e=.returned (.tuple #[.pointer none,.int .i64 9])∧Below w.heap.size w w':=by
 have HRT:=hid fun W=>r14Right_o o ho W
 unfold obA at HRT;have hany:decide (anyR o)=true:=decide_eq_true hR;have d2:decide (at'<0)=false:=decide_eq_false (by omega)
 have hkk:isK o.k=true:=by
  have:=@kind_of o;obtain⟨k1,k2,k3,k4,k5,k6⟩:=this;unfold isK
  rcases hR with q | q | q | q | q | q
  ·rw[k1 q];rfl
  ·rw[k2 q];rfl
  ·rw[k3 q];rfl
  ·rw[k4 q];rfl
  ·rw[k5 q];rfl
  ·rw[k6 q];rfl
 have HWK:=hid fun W=>rWrites_any o.k W hkk
 have HRK:=hid fun W=>rReads_any o.k W hkk
 clear hkk;clear hR;have d3:(op != oA o.k)=true:=by simpa using h3
 have d4:(op != oB o.k)=true:=by simpa using h4
 clear h3 h4;obtain⟨n,hn0⟩:∃ n,w.heap.size=n:=⟨_,rfl⟩;have hn:=RowB.new w (obA o) 26;have hB:=(Below.refl w.heap.size w).alloc (Nat.le_refl _) (.cells (obA o) 26);rw[hn0] at hn hB;unfold obA at hn hB;have HN:=hid hn;have HB:=hid hB;have HNN:=hid hn0;clear hn hB ho;rw[hn0];unfold obA;go_enter Tryz.func47,Tryz.ntmps47;go_wp2_with fail;refine(HRT.out _).mono ?_;rintro e w1 ⟨rfl,hb1⟩;have HN1:=hid (HN.out.kept hb1);have HB1:=hid (HB.out.trans (hb1.mono (by rw[← HNN.out];exact HB.out.size)));clear hb1;have c0:=HN1.out.at 0 (.int .i64 o.k);have c1:=HN1.out.at 1 (.int .i64 o.wd);have c7:=HN1.out.at 7 (.slice o.R o.nr o.cr);go_wp2_with fail;refine(HWK.out _).mono ?_;rintro e wq ⟨rfl,hwq⟩;rw[hwq];clear hwq;go_wp2_with fail;refine(HRK.out _).mono ?_;rintro e wq ⟨rfl,hwq⟩;rw[hwq];clear hwq;go_wp2_with fail;go_ret2;exact⟨rfl,by first | exact HB1.out | (rw[← HNN.out];exact HB1.out)⟩
theorem rbegin_w5 (w:World) (ho:o.Ok) (hR:anyR o) (h2:0≤at') (h3:op=oA o.k) (h5:rd<0):Calls Tryz.prog 47 #[.agg (obA o),.int .i64 at',.int .i64 op,.int .i64 rd,.slice A r.length cap] w fun e w'=>e=.returned (.tuple #[.pointer none,.int .i64 5])∧Below w.heap.size w w':=by
 have HRT:=hid fun W=>r14Right_o o ho W
 unfold obA at HRT;have hany:decide (anyR o)=true:=decide_eq_true hR;have d2:decide (at'<0)=false:=decide_eq_false (by omega)
 have hkk:isK o.k=true:=by
  have:=@kind_of o;obtain⟨k1,k2,k3,k4,k5,k6⟩:=this;unfold isK
  rcases hR with q | q | q | q | q | q
  ·rw[k1 q];rfl
  ·rw[k2 q];rfl
  ·rw[k3 q];rfl
  ·rw[k4 q];rfl
  ·rw[k5 q];rfl
  ·rw[k6 q];rfl
 have HWK:=hid fun W=>rWrites_any o.k W hkk
 have HRK:=hid fun W=>rReads_any o.k W hkk
 clear hkk;clear hR;have d3:(op != oA o.k)=false:=by simpa using h3
 have d3b:(op==oA o.k)=true:=by simpa using h3
 clear h3;have d5:decide (rd<0)=true:=decide_eq_true h5;obtain⟨n,hn0⟩:∃ n,w.heap.size=n:=⟨_,rfl⟩;have hn:=RowB.new w (obA o) 26;have hB:=(Below.refl w.heap.size w).alloc (Nat.le_refl _) (.cells (obA o) 26);rw[hn0] at hn hB;unfold obA at hn hB;have HN:=hid hn;have HB:=hid hB;have HNN:=hid hn0;clear hn hB ho;rw[hn0];unfold obA;go_enter Tryz.func47,Tryz.ntmps47;go_wp2_with fail;refine(HRT.out _).mono ?_;rintro e w1 ⟨rfl,hb1⟩;have HN1:=hid (HN.out.kept hb1);have HB1:=hid (HB.out.trans (hb1.mono (by rw[← HNN.out];exact HB.out.size)));clear hb1;have c0:=HN1.out.at 0 (.int .i64 o.k);have c1:=HN1.out.at 1 (.int .i64 o.wd);have c7:=HN1.out.at 7 (.slice o.R o.nr o.cr);go_wp2_with fail;refine(HWK.out _).mono ?_;rintro e wq ⟨rfl,hwq⟩;rw[hwq];clear hwq;go_wp2_with fail;refine(HWK.out _).mono ?_;rintro e wq ⟨rfl,hwq⟩;rw[hwq];clear hwq;go_wp2_with fail;go_ret2;exact⟨rfl,by first | exact HB1.out | (rw[← HNN.out];exact HB1.out)⟩
theorem rbegin_w5b (w:World) (ho:o.Ok) (hR:anyR o) (h2:0≤at') (h3:op=oA o.k) (h5:0<rd):Calls Tryz.prog 47 #[.agg (obA o),.int .i64 at',.int .i64 op,.int .i64 rd,.slice A r.length cap] w fun e w'=>e=.returned (.tuple #[.pointer none,.int .i64 5])∧Below w.heap.size w w':=by
 have HRT:=hid fun W=>r14Right_o o ho W
 unfold obA at HRT;have hany:decide (anyR o)=true:=decide_eq_true hR;have d2:decide (at'<0)=false:=decide_eq_false (by omega)
 have hkk:isK o.k=true:=by
  have:=@kind_of o;obtain⟨k1,k2,k3,k4,k5,k6⟩:=this;unfold isK
  rcases hR with q | q | q | q | q | q
  ·rw[k1 q];rfl
  ·rw[k2 q];rfl
  ·rw[k3 q];rfl
  ·rw[k4 q];rfl
  ·rw[k5 q];rfl
  ·rw[k6 q];rfl
 have HWK:=hid fun W=>rWrites_any o.k W hkk
 have HRK:=hid fun W=>rReads_any o.k W hkk
 clear hkk;clear hR;have d3:(op != oA o.k)=false:=by simpa using h3
 have d3b:(op==oA o.k)=true:=by simpa using h3
 clear h3;have d5:decide (rd<0)=false:=decide_eq_false (by omega);have d6:decide (0<rd)=true:=decide_eq_true h5;obtain⟨n,hn0⟩:∃ n,w.heap.size=n:=⟨_,rfl⟩;have hn:=RowB.new w (obA o) 26;have hB:=(Below.refl w.heap.size w).alloc (Nat.le_refl _) (.cells (obA o) 26);rw[hn0] at hn hB;unfold obA at hn hB;have HN:=hid hn;have HB:=hid hB;have HNN:=hid hn0;clear hn hB ho;rw[hn0];unfold obA;go_enter Tryz.func47,Tryz.ntmps47;go_wp2_with fail;refine(HRT.out _).mono ?_;rintro e w1 ⟨rfl,hb1⟩;have HN1:=hid (HN.out.kept hb1);have HB1:=hid (HB.out.trans (hb1.mono (by rw[← HNN.out];exact HB.out.size)));clear hb1;have c0:=HN1.out.at 0 (.int .i64 o.k);have c1:=HN1.out.at 1 (.int .i64 o.wd);have c7:=HN1.out.at 7 (.slice o.R o.nr o.cr);go_wp2_with fail;refine(HWK.out _).mono ?_;rintro e wq ⟨rfl,hwq⟩;rw[hwq];clear hwq;go_wp2_with fail;refine(HWK.out _).mono ?_;rintro e wq ⟨rfl,hwq⟩;rw[hwq];clear hwq;go_wp2_with fail;go_ret2;exact⟨rfl,by first | exact HB1.out | (rw[← HNN.out];exact HB1.out)⟩
theorem rbegin_w4 (w:World) (ho:o.Ok) (hR:anyR o) (h2:0≤at') (h3:op=oA o.k) (h5:0≤rd) (h6:rd<(o.nr:Int)) (h7:rd≤0) (h8:(r.length:Int)≠o.wd):Calls Tryz.prog 47 #[.agg (obA o),.int .i64 at',.int .i64 op,.int .i64 rd,.slice A r.length cap] w fun e w'=>e=.returned (.tuple #[.pointer none,.int .i64 4])∧Below w.heap.size w w':=by
 have HRT:=hid fun W=>r14Right_o o ho W
 unfold obA at HRT;have hany:decide (anyR o)=true:=decide_eq_true hR;have d2:decide (at'<0)=false:=decide_eq_false (by omega)
 have hkk:isK o.k=true:=by
  have:=@kind_of o;obtain⟨k1,k2,k3,k4,k5,k6⟩:=this;unfold isK
  rcases hR with q | q | q | q | q | q
  ·rw[k1 q];rfl
  ·rw[k2 q];rfl
  ·rw[k3 q];rfl
  ·rw[k4 q];rfl
  ·rw[k5 q];rfl
  ·rw[k6 q];rfl
 have HWK:=hid fun W=>rWrites_any o.k W hkk
 have HRK:=hid fun W=>rReads_any o.k W hkk
 clear hkk;clear hR;have d3:(op != oA o.k)=false:=by simpa using h3
 have d3b:(op==oA o.k)=true:=by simpa using h3
 clear h3;have d5:decide (rd<0)=false:=decide_eq_false (by omega);have d7:decide ((o.nr:Int)≤rd)=false:=decide_eq_false (by omega);have d6:decide (0<rd)=false:=decide_eq_false (by omega);have d8:((r.length:Int) != o.wd)=true:=by simpa using h8
 obtain⟨n,hn0⟩:∃ n,w.heap.size=n:=⟨_,rfl⟩;have hn:=RowB.new w (obA o) 26;have hB:=(Below.refl w.heap.size w).alloc (Nat.le_refl _) (.cells (obA o) 26);rw[hn0] at hn hB;unfold obA at hn hB;have HN:=hid hn;have HB:=hid hB;have HNN:=hid hn0;clear hn hB ho;rw[hn0];unfold obA;go_enter Tryz.func47,Tryz.ntmps47;go_wp2_with fail;refine(HRT.out _).mono ?_;rintro e w1 ⟨rfl,hb1⟩;have HN1:=hid (HN.out.kept hb1);have HB1:=hid (HB.out.trans (hb1.mono (by rw[← HNN.out];exact HB.out.size)));clear hb1;have c0:=HN1.out.at 0 (.int .i64 o.k);have c1:=HN1.out.at 1 (.int .i64 o.wd);have c7:=HN1.out.at 7 (.slice o.R o.nr o.cr);go_wp2_with fail;refine(HWK.out _).mono ?_;rintro e wq ⟨rfl,hwq⟩;rw[hwq];clear hwq;go_wp2_with fail;refine(HWK.out _).mono ?_;rintro e wq ⟨rfl,hwq⟩;rw[hwq];clear hwq;go_wp2_with fail;go_ret2;exact⟨rfl,by first | exact HB1.out | (rw[← HNN.out];exact HB1.out)⟩
theorem rbegin_r5 (w:World) (ho:o.Ok) (hR:anyR o) (h2:0≤at') (h3:op≠oA o.k) (h4:op=oB o.k) (h5:rd<0):Calls Tryz.prog 47 #[.agg (obA o),.int .i64 at',.int .i64 op,.int .i64 rd,.slice A r.length cap] w fun e w'=>e=.returned (.tuple #[.pointer none,.int .i64 5])∧Below w.heap.size w w':=by
 have HRT:=hid fun W=>r14Right_o o ho W
 unfold obA at HRT;have hany:decide (anyR o)=true:=decide_eq_true hR;have d2:decide (at'<0)=false:=decide_eq_false (by omega)
 have hkk:isK o.k=true:=by
  have:=@kind_of o;obtain⟨k1,k2,k3,k4,k5,k6⟩:=this;unfold isK
  rcases hR with q | q | q | q | q | q
  ·rw[k1 q];rfl
  ·rw[k2 q];rfl
  ·rw[k3 q];rfl
  ·rw[k4 q];rfl
  ·rw[k5 q];rfl
  ·rw[k6 q];rfl
 have HWK:=hid fun W=>rWrites_any o.k W hkk
 have HRK:=hid fun W=>rReads_any o.k W hkk
 clear hkk;clear hR;have d3:(op != oA o.k)=true:=by simpa using h3
 have d3b:(op==oA o.k)=false:=by simpa using h3
 have d4:(op != oB o.k)=false:=by simpa using h4
 clear h3 h4;have d5:decide (rd<0)=true:=decide_eq_true h5;obtain⟨n,hn0⟩:∃ n,w.heap.size=n:=⟨_,rfl⟩;have hn:=RowB.new w (obA o) 26;have hB:=(Below.refl w.heap.size w).alloc (Nat.le_refl _) (.cells (obA o) 26);rw[hn0] at hn hB;unfold obA at hn hB;have HN:=hid hn;have HB:=hid hB;have HNN:=hid hn0;clear hn hB ho;rw[hn0];unfold obA;go_enter Tryz.func47,Tryz.ntmps47;go_wp2_with fail;refine(HRT.out _).mono ?_;rintro e w1 ⟨rfl,hb1⟩;have HN1:=hid (HN.out.kept hb1);have HB1:=hid (HB.out.trans (hb1.mono (by rw[← HNN.out];exact HB.out.size)));clear hb1;have c0:=HN1.out.at 0 (.int .i64 o.k);have c1:=HN1.out.at 1 (.int .i64 o.wd);have c7:=HN1.out.at 7 (.slice o.R o.nr o.cr);go_wp2_with fail;refine(HWK.out _).mono ?_;rintro e wq ⟨rfl,hwq⟩;rw[hwq];clear hwq;go_wp2_with fail;refine(HRK.out _).mono ?_;rintro e wq ⟨rfl,hwq⟩;rw[hwq];clear hwq;go_wp2_with fail;refine(HWK.out _).mono ?_;rintro e wq ⟨rfl,hwq⟩;rw[hwq];clear hwq;go_wp2_with fail;go_ret2;exact⟨rfl,by first | exact HB1.out | (rw[← HNN.out];exact HB1.out)⟩
theorem rbegin_r5c (w:World) (ho:o.Ok) (hR:anyR o) (h2:0≤at') (h3:op≠oA o.k) (h4:op=oB o.k) (h5:0≤rd) (h6:(o.nr:Int)≤rd):Calls Tryz.prog 47 #[.agg (obA o),.int .i64 at',.int .i64 op,.int .i64 rd,.slice A r.length cap] w fun e w'=>e=.returned (.tuple #[.pointer none,.int .i64 5])∧Below w.heap.size w w':=by
 have HRT:=hid fun W=>r14Right_o o ho W
 unfold obA at HRT;have hany:decide (anyR o)=true:=decide_eq_true hR;have d2:decide (at'<0)=false:=decide_eq_false (by omega)
 have hkk:isK o.k=true:=by
  have:=@kind_of o;obtain⟨k1,k2,k3,k4,k5,k6⟩:=this;unfold isK
  rcases hR with q | q | q | q | q | q
  ·rw[k1 q];rfl
  ·rw[k2 q];rfl
  ·rw[k3 q];rfl
  ·rw[k4 q];rfl
  ·rw[k5 q];rfl
  ·rw[k6 q];rfl
 have HWK:=hid fun W=>rWrites_any o.k W hkk
 have HRK:=hid fun W=>rReads_any o.k W hkk
 clear hkk;clear hR;have d3:(op != oA o.k)=true:=by simpa using h3
 have d3b:(op==oA o.k)=false:=by simpa using h3
 have d4:(op != oB o.k)=false:=by simpa using h4
 clear h3 h4;have d5:decide (rd<0)=false:=decide_eq_false (by omega);have d7:decide ((o.nr:Int)≤rd)=true:=decide_eq_true h6;obtain⟨n,hn0⟩:∃ n,w.heap.size=n:=⟨_,rfl⟩;have hn:=RowB.new w (obA o) 26;have hB:=(Below.refl w.heap.size w).alloc (Nat.le_refl _) (.cells (obA o) 26);rw[hn0] at hn hB;unfold obA at hn hB;have HN:=hid hn;have HB:=hid hB;have HNN:=hid hn0;clear hn hB ho;rw[hn0];unfold obA;go_enter Tryz.func47,Tryz.ntmps47;go_wp2_with fail;refine(HRT.out _).mono ?_;rintro e w1 ⟨rfl,hb1⟩;have HN1:=hid (HN.out.kept hb1);have HB1:=hid (HB.out.trans (hb1.mono (by rw[← HNN.out];exact HB.out.size)));clear hb1;have c0:=HN1.out.at 0 (.int .i64 o.k);have c1:=HN1.out.at 1 (.int .i64 o.wd);have c7:=HN1.out.at 7 (.slice o.R o.nr o.cr);go_wp2_with fail;refine(HWK.out _).mono ?_;rintro e wq ⟨rfl,hwq⟩;rw[hwq];clear hwq;go_wp2_with fail;refine(HRK.out _).mono ?_;rintro e wq ⟨rfl,hwq⟩;rw[hwq];clear hwq;go_wp2_with fail;refine(HWK.out _).mono ?_;rintro e wq ⟨rfl,hwq⟩;rw[hwq];clear hwq;go_wp2_with fail;go_ret2;exact⟨rfl,by first | exact HB1.out | (rw[← HNN.out];exact HB1.out)⟩
theorem rbegin_r4 (w:World) (ho:o.Ok) (hR:anyR o) (h2:0≤at') (h3:op≠oA o.k) (h4:op=oB o.k) (h5:0≤rd) (h6:rd<(o.nr:Int)) (h8:0<r.length):Calls Tryz.prog 47 #[.agg (obA o),.int .i64 at',.int .i64 op,.int .i64 rd,.slice A r.length cap] w fun e w'=>e=.returned (.tuple #[.pointer none,.int .i64 4])∧Below w.heap.size w w':=by
 have HRT:=hid fun W=>r14Right_o o ho W
 unfold obA at HRT;have hany:decide (anyR o)=true:=decide_eq_true hR;have d2:decide (at'<0)=false:=decide_eq_false (by omega)
 have hkk:isK o.k=true:=by
  have:=@kind_of o;obtain⟨k1,k2,k3,k4,k5,k6⟩:=this;unfold isK
  rcases hR with q | q | q | q | q | q
  ·rw[k1 q];rfl
  ·rw[k2 q];rfl
  ·rw[k3 q];rfl
  ·rw[k4 q];rfl
  ·rw[k5 q];rfl
  ·rw[k6 q];rfl
 have HWK:=hid fun W=>rWrites_any o.k W hkk
 have HRK:=hid fun W=>rReads_any o.k W hkk
 clear hkk;clear hR;have d3:(op != oA o.k)=true:=by simpa using h3
 have d3b:(op==oA o.k)=false:=by simpa using h3
 have d4:(op != oB o.k)=false:=by simpa using h4
 clear h3 h4;have d5:decide (rd<0)=false:=decide_eq_false (by omega);have d7:decide ((o.nr:Int)≤rd)=false:=decide_eq_false (by omega);have d8:decide ((0:Int)<(r.length:Int))=true:=decide_eq_true (by omega);have d8n:decide (0<r.length)=true:=decide_eq_true h8;obtain⟨n,hn0⟩:∃ n,w.heap.size=n:=⟨_,rfl⟩;have hn:=RowB.new w (obA o) 26;have hB:=(Below.refl w.heap.size w).alloc (Nat.le_refl _) (.cells (obA o) 26);rw[hn0] at hn hB;unfold obA at hn hB;have HN:=hid hn;have HB:=hid hB;have HNN:=hid hn0;clear hn hB ho;rw[hn0];unfold obA;go_enter Tryz.func47,Tryz.ntmps47;go_wp2_with fail;refine(HRT.out _).mono ?_;rintro e w1 ⟨rfl,hb1⟩;have HN1:=hid (HN.out.kept hb1);have HB1:=hid (HB.out.trans (hb1.mono (by rw[← HNN.out];exact HB.out.size)));clear hb1;have c0:=HN1.out.at 0 (.int .i64 o.k);have c1:=HN1.out.at 1 (.int .i64 o.wd);have c7:=HN1.out.at 7 (.slice o.R o.nr o.cr);go_wp2_with fail;refine(HWK.out _).mono ?_;rintro e wq ⟨rfl,hwq⟩;rw[hwq];clear hwq;go_wp2_with fail;refine(HRK.out _).mono ?_;rintro e wq ⟨rfl,hwq⟩;rw[hwq];clear hwq;go_wp2_with fail;refine(HWK.out _).mono ?_;rintro e wq ⟨rfl,hwq⟩;rw[hwq];clear hwq;go_wp2_with fail;go_ret2;exact⟨rfl,by first | exact HB1.out | (rw[← HNN.out];exact HB1.out)⟩
theorem rbegin_w0 (w:World) (ho:o.Ok) (hR:anyR o) (h2:0≤at') (h3:op=oA o.k) (h5:0≤rd) (h6:rd<(o.nr:Int)) (h7:rd≤0) (h8:(r.length:Int)=o.wd) (hl:r.length≤1000000) (hr:Ws w w.heap.size A r):Calls Tryz.prog 47 #[.agg (obA o),.int .i64 at',.int .i64 op,.int .i64 rd,.slice A r.length cap] w fun e w'=>∃ yb,e=.returned (.tuple #[.pointer (some ⟨yb,0,none⟩),.int .i64 0])∧Below w.heap.size w w'∧w.heap.size≤yb∧∃ rv,RowB w' yb (newR o at' op rd rv) 84∧Own (ints .u32) 22 w.heap.size w' rv r∧rv.ownBlock≠some yb:=by
 have HRT:=hid fun W=>r14Right_o o ho W
 unfold obA at HRT;have hany:decide (anyR o)=true:=decide_eq_true hR;have d2:decide (at'<0)=false:=decide_eq_false (by omega)
 have hkk:isK o.k=true:=by
  have:=@kind_of o;obtain⟨k1,k2,k3,k4,k5,k6⟩:=this;unfold isK
  rcases hR with q | q | q | q | q | q
  ·rw[k1 q];rfl
  ·rw[k2 q];rfl
  ·rw[k3 q];rfl
  ·rw[k4 q];rfl
  ·rw[k5 q];rfl
  ·rw[k6 q];rfl
 have HWK:=hid fun W=>rWrites_any o.k W hkk
 have HRK:=hid fun W=>rReads_any o.k W hkk
 clear hkk;clear hR;have d3:(op != oA o.k)=false:=by simpa using h3
 have d3b:(op==oA o.k)=true:=by simpa using h3
 clear h3;have d5:decide (rd<0)=false:=decide_eq_false (by omega);have d7:decide ((o.nr:Int)≤rd)=false:=decide_eq_false (by omega);have d6:decide (0<rd)=false:=decide_eq_false (by omega);have d8:((r.length:Int) != o.wd)=false:=by simpa using h8
 clear h8;obtain⟨n,hn0⟩:∃ n,w.heap.size=n:=⟨_,rfl⟩;have hn:=RowB.new w (obA o) 26;have hB:=(Below.refl w.heap.size w).alloc (Nat.le_refl _) (.cells (obA o) 26);rw[hn0] at hn hB;unfold obA at hn hB;have HN:=hid hn;have HB:=hid hB;have HNN:=hid hn0;clear hn hB ho;rw[hn0];unfold obA;have HR:=hid hr;have HL:=hid hl;clear hr hl;go_enter Tryz.func47,Tryz.ntmps47;go_wp2_with fail;refine(HRT.out _).mono ?_;rintro e w1 ⟨rfl,hb1⟩;have HN1:=hid (HN.out.kept hb1);have HB1:=hid (HB.out.trans (hb1.mono (by rw[← HNN.out];exact HB.out.size)));clear hb1;have c0:=HN1.out.at 0 (.int .i64 o.k);have c1:=HN1.out.at 1 (.int .i64 o.wd);have c7:=HN1.out.at 7 (.slice o.R o.nr o.cr);go_wp2_with fail;refine(HWK.out _).mono ?_;rintro e wq ⟨rfl,hwq⟩;rw[hwq];clear hwq;go_wp2_with fail;refine(HWK.out _).mono ?_;rintro e wq ⟨rfl,hwq⟩;rw[hwq];clear hwq;go_wp2_with fail;clear c0 c1 c7;have HN2:=hid (HN1.out.kept (Below.refl _ w1).drew);have HB2:=hid (show Below w.heap.size w w1.drew from by rw[HNN.out];exact HB1.out.drew);refine rgn (S:=(QOrL0 n o)) (by and_intros <;> exact HN2.out.c rfl) fun w2 hw9 hHeld=>?_
 rw[hw9] at HN2 HB2;clear hw9;refine tk4 0 1 2 3 ?_;refine tkH 5 ?_;refine clH 4 (fun K hK=>?_)
 ·go_simp;have hba:=(Below.refl w2.heap.size w2).alloc (Nat.le_refl _) (.cells #[] 22);have hem:=World.ownsRow_lit (base:=w2.heap.size) (e:=22) (size:=1) w2 #[] 0 (Nat.le_refl _) (by simp[maxLen]) rfl;have HEM:=hid hem;have HN3:=hid (HN2.out.kept hba);have HB3:=hid (HB2.out.trans (hba.mono HB2.out.size));have HBA:=hid hba;have hSx:(QOrL0 n o) (w2.alloc (.cells #[] 22)):=(by and_intros <;> exact HN3.out.c rfl);clear hba hem;refine kH hK hSx fun hHeld=>?_
  clear hK K;refine clH 6 (fun K hK=>?_)
  ·refine step_cat (by rfl) (.tmp 74) (.tmp 75) (by rfl) HEM.out (by rfl) (by rfl) rfl (HR.out.below (HB2.out.trans (HBA.out.mono HB2.out.size)) (Nat.le_refl _)) (by have:=HL.out;omega) (by rw[World.size_alloc];omega) ?_;intro v7 w7 hown7 hgr7 hob7;simp only[Nat.zero_add,List.nil_append] at hown7;obtain⟨A9,M9,c9,rfl⟩:=own_slice hown7;have HG7:=hid (HBA.out.trans (grown_below HEM.out hgr7 (Nat.le_refl _) (by rw[World.size_alloc];omega)));have HO7:=hid hown7;have HN7:=hid (HN2.out.below HG7.out HN2.out.lt);have hS7:(QOrL0 n o) w7:=(by and_intros <;> exact HN7.out.c rfl);clear hown7 hgr7 hob7;refine kH hK hS7 fun hHeld=>?_
   clear hK K;refine tkH 7 ?_;refine clH 8 (fun K hK=>?_)
   ·go_simp;have hrow:=RowB.new w7 (newR o at' op rd (.slice A9 M9 c9)) 84;have hb8:=(Below.refl w7.heap.size w7).alloc (Nat.le_refl _) (.cells (newR o at' op rd (.slice A9 M9 c9)) 84);have HR8:=hid hrow;have HB8:=hid hb8;have hS8:(QOrL0 n o) (w7.alloc (.cells (newR o at' op rd (.slice A9 M9 c9)) 84)):=(fun hn=>(by and_intros <;> exact hn.c rfl)) (HN7.out.kept hb8);unfold newR at hS8;clear hrow hb8;refine kH hK hS8 fun hHeld=>?_
    clear hK K;refine tk2 9 10 ?_;refine dnH ?_;clear hHeld;go_wp2_with fail;go_ret2;have hs7:=HG7.out.size;have hs2:=HB2.out.size;rw[← HNN.out];have hz:=HB2.out.trans (HG7.out.mono hs2);refine⟨w7.heap.size,rfl,hz.trans (HB8.out.mono hz.size),by omega,.slice A9 M9 c9,HR8.out,?_,?_⟩
    ·have hall:(ints .u32).all r=r.map (Value.int .u32):=of1_all _ _ r
     have h1:Own (ints .u32) 22 w2.heap.size w7 (.slice A9 M9 c9) r:=by
      unfold Own;rw[hall];exact HO7.out
     exact(h1.below HB8.out (Nat.le_refl _)).mono hs2
    ·intro e;have:=(World.ownsRow.lt HO7.out _ e).2;omega
theorem rbegin_r0 (w:World) (ho:o.Ok) (hR:anyR o) (h2:0≤at') (h3:op≠oA o.k) (h4:op=oB o.k) (h5:0≤rd) (h6:rd<(o.nr:Int)) (h8:r.length=0) (hl:r.length≤1000000) (hr:Ws w w.heap.size A r):Calls Tryz.prog 47 #[.agg (obA o),.int .i64 at',.int .i64 op,.int .i64 rd,.slice A r.length cap] w fun e w'=>∃ yb,e=.returned (.tuple #[.pointer (some ⟨yb,0,none⟩),.int .i64 0])∧Below w.heap.size w w'∧w.heap.size≤yb∧∃ rv,RowB w' yb (newR o at' op rd rv) 84∧Own (ints .u32) 22 w.heap.size w' rv r∧rv.ownBlock≠some yb:=by
 have HRT:=hid fun W=>r14Right_o o ho W
 unfold obA at HRT;have hany:decide (anyR o)=true:=decide_eq_true hR;have d2:decide (at'<0)=false:=decide_eq_false (by omega)
 have hkk:isK o.k=true:=by
  have:=@kind_of o;obtain⟨k1,k2,k3,k4,k5,k6⟩:=this;unfold isK
  rcases hR with q | q | q | q | q | q
  ·rw[k1 q];rfl
  ·rw[k2 q];rfl
  ·rw[k3 q];rfl
  ·rw[k4 q];rfl
  ·rw[k5 q];rfl
  ·rw[k6 q];rfl
 have HWK:=hid fun W=>rWrites_any o.k W hkk
 have HRK:=hid fun W=>rReads_any o.k W hkk
 clear hkk;clear hR;have d3:(op != oA o.k)=true:=by simpa using h3
 have d3b:(op==oA o.k)=false:=by simpa using h3
 have d4:(op != oB o.k)=false:=by simpa using h4
 clear h3 h4;have d5:decide (rd<0)=false:=decide_eq_false (by omega);have d7:decide ((o.nr:Int)≤rd)=false:=decide_eq_false (by omega);have d8:decide ((0:Int)<(r.length:Int))=false:=decide_eq_false (by omega);have d8n:decide (0<r.length)=false:=decide_eq_false (by omega);clear h8;obtain⟨n,hn0⟩:∃ n,w.heap.size=n:=⟨_,rfl⟩;have hn:=RowB.new w (obA o) 26;have hB:=(Below.refl w.heap.size w).alloc (Nat.le_refl _) (.cells (obA o) 26);rw[hn0] at hn hB;unfold obA at hn hB;have HN:=hid hn;have HB:=hid hB;have HNN:=hid hn0;clear hn hB ho;rw[hn0];unfold obA;have HR:=hid hr;have HL:=hid hl;clear hr hl;go_enter Tryz.func47,Tryz.ntmps47;go_wp2_with fail;refine(HRT.out _).mono ?_;rintro e w1 ⟨rfl,hb1⟩;have HN1:=hid (HN.out.kept hb1);have HB1:=hid (HB.out.trans (hb1.mono (by rw[← HNN.out];exact HB.out.size)));clear hb1;have c0:=HN1.out.at 0 (.int .i64 o.k);have c1:=HN1.out.at 1 (.int .i64 o.wd);have c7:=HN1.out.at 7 (.slice o.R o.nr o.cr);go_wp2_with fail;refine(HWK.out _).mono ?_;rintro e wq ⟨rfl,hwq⟩;rw[hwq];clear hwq;go_wp2_with fail;refine(HRK.out _).mono ?_;rintro e wq ⟨rfl,hwq⟩;rw[hwq];clear hwq;go_wp2_with fail;refine(HWK.out _).mono ?_;rintro e wq ⟨rfl,hwq⟩;rw[hwq];clear hwq;go_wp2_with fail;clear c0 c1 c7;have HN2:=hid (HN1.out.kept (Below.refl _ w1).drew);have HB2:=hid (show Below w.heap.size w w1.drew from by rw[HNN.out];exact HB1.out.drew);refine rgn (S:=(QOrL0 n o)) (by and_intros <;> exact HN2.out.c rfl) fun w2 hw9 hHeld=>?_
 rw[hw9] at HN2 HB2;clear hw9;refine tk4 0 1 2 3 ?_;refine tkH 5 ?_;refine clH 4 (fun K hK=>?_)
 ·go_simp;have hba:=(Below.refl w2.heap.size w2).alloc (Nat.le_refl _) (.cells #[] 22);have hem:=World.ownsRow_lit (base:=w2.heap.size) (e:=22) (size:=1) w2 #[] 0 (Nat.le_refl _) (by simp[maxLen]) rfl;have HEM:=hid hem;have HN3:=hid (HN2.out.kept hba);have HB3:=hid (HB2.out.trans (hba.mono HB2.out.size));have HBA:=hid hba;have hSx:(QOrL0 n o) (w2.alloc (.cells #[] 22)):=(by and_intros <;> exact HN3.out.c rfl);clear hba hem;refine kH hK hSx fun hHeld=>?_
  clear hK K;refine clH 6 (fun K hK=>?_)
  ·refine step_cat (by rfl) (.tmp 74) (.tmp 75) (by rfl) HEM.out (by rfl) (by rfl) rfl (HR.out.below (HB2.out.trans (HBA.out.mono HB2.out.size)) (Nat.le_refl _)) (by have:=HL.out;omega) (by rw[World.size_alloc];omega) ?_;intro v7 w7 hown7 hgr7 hob7;simp only[Nat.zero_add,List.nil_append] at hown7;obtain⟨A9,M9,c9,rfl⟩:=own_slice hown7;have HG7:=hid (HBA.out.trans (grown_below HEM.out hgr7 (Nat.le_refl _) (by rw[World.size_alloc];omega)));have HO7:=hid hown7;have HN7:=hid (HN2.out.below HG7.out HN2.out.lt);have hS7:(QOrL0 n o) w7:=(by and_intros <;> exact HN7.out.c rfl);clear hown7 hgr7 hob7;refine kH hK hS7 fun hHeld=>?_
   clear hK K;refine tkH 7 ?_;refine clH 8 (fun K hK=>?_)
   ·go_simp;have hrow:=RowB.new w7 (newR o at' op rd (.slice A9 M9 c9)) 84;have hb8:=(Below.refl w7.heap.size w7).alloc (Nat.le_refl _) (.cells (newR o at' op rd (.slice A9 M9 c9)) 84);have HR8:=hid hrow;have HB8:=hid hb8;have hS8:(QOrL0 n o) (w7.alloc (.cells (newR o at' op rd (.slice A9 M9 c9)) 84)):=(fun hn=>(by and_intros <;> exact hn.c rfl)) (HN7.out.kept hb8);unfold newR at hS8;clear hrow hb8;refine kH hK hS8 fun hHeld=>?_
    clear hK K;refine tk2 9 10 ?_;refine dnH ?_;clear hHeld;go_wp2_with fail;go_ret2;have hs7:=HG7.out.size;have hs2:=HB2.out.size;rw[← HNN.out];have hz:=HB2.out.trans (HG7.out.mono hs2);refine⟨w7.heap.size,rfl,hz.trans (HB8.out.mono hz.size),by omega,.slice A9 M9 c9,HR8.out,?_,?_⟩
    ·have hall:(ints .u32).all r=r.map (Value.int .u32):=of1_all _ _ r
     have h1:Own (ints .u32) 22 w2.heap.size w7 (.slice A9 M9 c9) r:=by
      unfold Own;rw[hall];exact HO7.out
     exact(h1.below HB8.out (Nat.le_refl _)).mono hs2
    ·intro e;have:=(World.ownsRow.lt HO7.out _ e).2;omega
end
end Go.Proofs.YtolmpehgeinlkaaGreatDoor

namespace Go.Proofs.YtolmpehgeinlkaaGreatDoor
open Go.RowKit
section
variable (o:Ob) (at' op rd:Int) (A:Option Addr) (cap:Nat) (r:List Int)
def RBegun (w:World) (y:Option Addr) (w':World):Prop:=
 Below w.heap.size w w'∧(begE o at' op rd r.length≠0→y=none)∧(begE o at' op rd r.length=0→∃ yb rv,y=some ⟨yb,0,none⟩∧w.heap.size≤yb∧RowB w' yb (opR o (kc0 o at' op rd r) rv) 84∧Own (ints .u32) 22 w.heap.size w' rv r∧rv.ownBlock≠some yb)
theorem rbegin_o (ho:o.Ok) (w:World) (hl:r.length≤1000000) (hr:Ws w w.heap.size A r):
  Calls Tryz.prog 47 #[.agg (obA o),.int .i64 at',.int .i64 op,.int .i64 rd,.slice A r.length cap] w fun e w'=>∃ y,e=.returned (.tuple #[.pointer y,.int .i64 (begE o at' op rd r.length)])∧RBegun o at' op rd r w y w':=by
 have er:∀ code:Int,begE o at' op rd r.length=code→code≠0→(Calls Tryz.prog 47 #[.agg (obA o),.int .i64 at',.int .i64 op,.int .i64 rd,.slice A r.length cap] w fun e w'=>e=.returned (.tuple #[.pointer none,.int .i64 code])∧Below w.heap.size w w')→
   Calls Tryz.prog 47 #[.agg (obA o),.int .i64 at',.int .i64 op,.int .i64 rd,.slice A r.length cap] w fun e w'=>∃ y,e=.returned (.tuple #[.pointer y,.int .i64 (begE o at' op rd r.length)])∧RBegun o at' op rd r w y w':=fun code hc h0 h=>h.mono fun e w' q=>by
  obtain⟨q1,q2⟩:=q;exact⟨none,by rw[q1,hc],q2,fun _=>rfl,fun q=>absurd (hc.symm.trans q) h0⟩
 have ok:begE o at' op rd r.length=0→(Calls Tryz.prog 47 #[.agg (obA o),.int .i64 at',.int .i64 op,.int .i64 rd,.slice A r.length cap] w fun e w'=>∃ yb,e=.returned (.tuple #[.pointer (some ⟨yb,0,none⟩),.int .i64 0])∧Below w.heap.size w w'∧w.heap.size≤yb∧∃ rv,RowB w' yb (newR o at' op rd rv) 84∧Own (ints .u32) 22 w.heap.size w' rv r∧rv.ownBlock≠some yb)→
   Calls Tryz.prog 47 #[.agg (obA o),.int .i64 at',.int .i64 op,.int .i64 rd,.slice A r.length cap] w fun e w'=>∃ y,e=.returned (.tuple #[.pointer y,.int .i64 (begE o at' op rd r.length)])∧RBegun o at' op rd r w y w':=fun hc h=>h.mono fun e w' q=>by
  obtain⟨yb,q1,q2,q3,rv,q4,q5,q6⟩:=q;obtain⟨_,_,ha0,hd0,_⟩:=kc0_sta hc
  have hrow:newR o at' op rd rv=opR o (kc0 o at' op rd r) rv:=by
   have e1:((kc0 o at' op rd r).base:Int)=at':=by show((at'.toNat:Nat):Int)=at';omega
   have e2:((kc0 o at' op rd r).rd:Int)=rd:=by show((rd.toNat:Nat):Int)=rd;omega
   unfold newR opR;rw[e1,e2];rfl
  exact⟨some ⟨yb,0,none⟩,by rw[q1,hc],q2,fun q=>absurd hc q,fun _=>⟨yb,rv,rfl,q3,by rw[← hrow];exact q4,q5,q6⟩⟩
 by_cases hR:anyR o
 ·have hb:=any_bd hR
  have hz:1≤sizeZ o:=by
   rcases any_cases hR with ⟨_,q⟩ | ⟨_,q⟩ | ⟨_,q⟩ | ⟨_,q⟩ | ⟨_,q⟩ | ⟨_,q⟩
   ·rw[sizeZ_four q];have:=four_bd q;omega
   ·rw[sizeZ_chen q];have:=chen_bd q;have:=Int.mul_nonneg (show 0≤(o.nr:Int)+2 by omega) (show 0≤o.wd by omega);omega
   ·rw[sizeZ_seq q];have:=seq_bd q;omega
   ·rw[sizeZ_ring q];have:=ring_bd q;have:=Int.mul_nonneg (show 0≤o.s by omega) (show 0≤o.wd by omega);omega
   ·rw[sizeZ_cab q];have:=cab_bd q;have:=Int.mul_nonneg (show 0≤o.s by omega) (show 0≤o.wd by omega);omega
   ·rw[sizeZ_fifo q];have:=fifo_bd q;have:=Int.mul_nonneg (show 0≤o.s by omega) (show 0≤o.wd by omega);omega
  by_cases h2:at'<0
  ·exact er 1 (by unfold begE mbE;rw[if_pos (.inr h2)]) (by decide) (rbegin_at o at' op rd A cap r w ho hR h2)
  ·have hc1:¬ (sizeZ o<1∨at'<0):=by omega
   by_cases h3:op=oA o.k
   ·have e0:begE o at' op rd r.length=if rd<0∨1≤rd then 5 else if (r.length:Int)≠o.wd then 4 else 0:=by unfold begE mbE;rw[if_neg hc1,if_pos h3]
    by_cases h5:rd<0
    ·exact er 5 (by rw[e0,if_pos (.inl h5)]) (by decide) (rbegin_w5 o at' op rd A cap r w ho hR (by omega) h3 h5)
    ·by_cases h6:0<rd
     ·exact er 5 (by rw[e0,if_pos (.inr (by omega))]) (by decide) (rbegin_w5b o at' op rd A cap r w ho hR (by omega) h3 h6)
     ·have hn:¬ (rd<0∨1≤rd):=by omega
      by_cases h8:(r.length:Int)=o.wd
      ·exact ok (by rw[e0,if_neg hn,if_neg (fun q=>q h8)]) (rbegin_w0 o at' op rd A cap r w ho hR (by omega) h3 (by omega) (by omega) (by omega) h8 hl hr)
      ·exact er 4 (by rw[e0,if_neg hn,if_pos h8]) (by decide) (rbegin_w4 o at' op rd A cap r w ho hR (by omega) h3 (by omega) (by omega) (by omega) h8)
   ·by_cases h4:op=oB o.k
    ·have e0:begE o at' op rd r.length=if rd<0∨(o.nr:Int)≤rd then 5 else if (r.length:Int)≠0 then 4 else 0:=by unfold begE mbE;rw[if_neg hc1,if_neg h3,if_pos h4]
     by_cases h5:rd<0
     ·exact er 5 (by rw[e0,if_pos (.inl h5)]) (by decide) (rbegin_r5 o at' op rd A cap r w ho hR (by omega) h3 h4 h5)
     ·by_cases h6:(o.nr:Int)≤rd
      ·exact er 5 (by rw[e0,if_pos (.inr h6)]) (by decide) (rbegin_r5c o at' op rd A cap r w ho hR (by omega) h3 h4 (by omega) h6)
      ·have hn:¬ (rd<0∨(o.nr:Int)≤rd):=by omega
       by_cases h8:r.length=0
       ·exact ok (by rw[e0,if_neg hn,if_neg (fun q=>q (by omega))]) (rbegin_r0 o at' op rd A cap r w ho hR (by omega) h3 h4 (by omega) (by omega) h8 hl hr)
       ·exact er 4 (by rw[e0,if_neg hn,if_pos (by omega)]) (by decide) (rbegin_r4 o at' op rd A cap r w ho hR (by omega) h3 h4 (by omega) (by omega) (by omega))
    ·exact er 9 (by unfold begE mbE;rw[if_neg hc1,if_neg h3,if_neg h4]) (by decide) (rbegin_call o at' op rd A cap r w ho hR (by omega) h3 h4)
 ·exact er 1 (by unfold begE mbE;rw[if_pos (.inl (by rw[sizeZ_no hR];decide))]) (by decide) (rbegin_right o at' op rd A cap r w ho hR)
end
end Go.Proofs.YtolmpehgeinlkaaGreatDoor
