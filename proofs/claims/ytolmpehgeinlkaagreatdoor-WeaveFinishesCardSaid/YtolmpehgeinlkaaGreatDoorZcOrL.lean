/- The document's Begin, joined. -/
import Derived.Test.YtolmpehgeinlkaaGreatDoorZcOrJ
import Derived.Test.YtolmpehgeinlkaaGreatDoorZcOgT
namespace Go.Proofs.YtolmpehgeinlkaaGreatDoor
open Go.RowKit
open Go.Lib (hid)
attribute [local go_sem] Oper.semAt_some
set_option maxHeartbeats 2000000
set_option maxRecDepth 100000
abbrev k9 (a0:Nat) (a1:Ob) (w':World):Prop:=w'.cell? ⟨a0,0,none⟩=some (.int .i64 a1.k)∧w'.cell? ⟨a0,1,none⟩=some (.int .i64 a1.wd)∧w'.cell? ⟨a0,2,none⟩=some (.int .i64 a1.s)∧w'.cell? ⟨a0,3,none⟩=some (.int .i64 a1.c)∧w'.cell? ⟨a0,4,none⟩=some (.int .u32 a1.st)∧w'.cell? ⟨a0,5,none⟩=some (.slice a1.I a1.ni a1.ci)∧w'.cell? ⟨a0,6,none⟩=some (.int .i64 a1.wr)∧w'.cell? ⟨a0,7,none⟩=some (.slice a1.R a1.nr a1.cr)
theorem iA {w:World} {ops:Array Oper} {o:Oper} {a:Act} {K:Act→World→Prop} {Q:Exit→Act→World→Prop} {E:Prop} (mu:o.guard=none) (s x:Operand)
  (ho:o.op=.call { callee:=.builtin .append,args:=#[s,x],argTypes:=#[23,23] }) {base n:Nat} {v:Value} {xs:List Value} (h:w.ownsRow base 22 1 v n xs) (hs:a.eval s=v) {A:Option Addr} {m c B:Nat} {l:List Int} (hx:a.eval x=.slice A m c) (hm:m=l.length) (hw:Ws w B A l) (h1:n+l.length≤2000000) (hb:base≤w.heap.size)
  (hk:∀ v' w',w'.ownsRow base 22 1 v' (n+l.length) (xs++l.map (Value.int .u32))→w.grownBy w' v.ownBlock→(v'.ownBlock=v.ownBlock∨v'.ownBlock=some w.heap.size)→K (a.put o.dst v') w'):if Region.wanted o (yielded ops a.tmps)=true then Oper.wp Tryz.prog o a w K Q else E:=by
 subst hm;have Ch:Region.wanted o (yielded ops a.tmps)=true:=by simp[Region.wanted,mu]
 rw[if_pos Ch];obtain⟨v',w',hr,h2,h3,h4⟩:=Bb w o.type h (c:=c) hw h1 hb;unfold Oper.wp execOp;simp only[ho,resolve,invoke,builtin,Sem.run_bind,Sem.run_pure,Result.andThen_ok,List.map_toArray,List.map_cons,List.map_nil,hs,hx,hr];exact hk v' w' h2 h3 h4
section
variable (o:Ob) (at' op rd:Int) (A:Option Addr) (cap:Nat) (r:List Int)
def kv (o:Ob) (at' op rd:Int) (rv:Value):Array Value:=#[.int .i64 o.k,.int .i64 o.wd,.int .i64 o.s,.int .i64 o.c,.int .u32 o.st,.slice o.I o.ni o.ci,.int .i64 o.wr,.slice o.R o.nr o.cr,.int .i64 at',.int .i64 op,.int .i64 rd,.int .i64 0,.int .i64 0,.int .i64 0,.int .i64 0,.int .i64 0,.int .u32 0,.int .u32 0,.bool false,.bool false,.bool false,.bool false,.bool false,.bool false,.bool false,.bool false,.bool false,.bool false,.bool false,.bool false,.bool false,.bool false,.bool false,.bool false,.bool false,.bool false,.bool false,.bool false,rv,.bool false]
theorem oM (w:World) (ho:o.Ok) (hR:¬ aT o):Calls Tryz.prog 47 #[.agg (af o),.int .i64 at',.int .i64 op,.int .i64 rd,.slice A r.length cap] w fun e w'=>e=.returned (.tuple #[.pointer none,.int .i64 1])∧Below w.heap.size w w':=by
 have gX:=hid fun W=>aY o ho W
 unfold af at gX;have nt:decide (aT o)=false:=decide_eq_false hR;obtain⟨n,aq⟩:∃ n,w.heap.size=n:=⟨_,rfl⟩;have hn:=RowB.new w (af o) 26;have hB:=bt w (.cells (af o) 26);rw[aq] at hn hB;unfold af at hn hB;have HN:=hid hn;have HB:=hid hB;have iS:=hid aq;clear hn hB ho;rw[aq];unfold af;go_enter Tryz.func47,Tryz.ntmps47;go_wp2_with fail;refine(gX.out _).mono ?_;rintro e w1 ⟨rfl,am⟩;have dF:=hid (HN.out.kept am);have bT:=hid (HB.out.trans (am.mono (by rw[← iS.out];exact HB.out.size)));clear am;have c0:=dF.out.at 0 (.int .i64 o.k);have c1:=dF.out.at 1 (.int .i64 o.wd);have c7:=dF.out.at 7 (.slice o.R o.nr o.cr);go_wp2_with fail;go_ret2;exact⟨rfl,by first | exact bT.out | (rw[← iS.out];exact bT.out)⟩
theorem wG (w:World) (ho:o.Ok) (hR:aT o) (h2:at'<0):Calls Tryz.prog 47 #[.agg (af o),.int .i64 at',.int .i64 op,.int .i64 rd,.slice A r.length cap] w fun e w'=>e=.returned (.tuple #[.pointer none,.int .i64 1])∧Below w.heap.size w w':=by
 have gX:=hid fun W=>aY o ho W
 unfold af at gX;have nt:decide (aT o)=true:=decide_eq_true hR;have d2:decide (at'<0)=true:=decide_eq_true h2;obtain⟨n,aq⟩:∃ n,w.heap.size=n:=⟨_,rfl⟩;have hn:=RowB.new w (af o) 26;have hB:=bt w (.cells (af o) 26);rw[aq] at hn hB;unfold af at hn hB;have HN:=hid hn;have HB:=hid hB;have iS:=hid aq;clear hn hB ho;rw[aq];unfold af;go_enter Tryz.func47,Tryz.ntmps47;go_wp2_with fail;refine(gX.out _).mono ?_;rintro e w1 ⟨rfl,am⟩;have dF:=hid (HN.out.kept am);have bT:=hid (HB.out.trans (am.mono (by rw[← iS.out];exact HB.out.size)));clear am;have c0:=dF.out.at 0 (.int .i64 o.k);have c1:=dF.out.at 1 (.int .i64 o.wd);have c7:=dF.out.at 7 (.slice o.R o.nr o.cr);go_wp2_with fail;go_ret2;exact⟨rfl,by first | exact bT.out | (rw[← iS.out];exact bT.out)⟩
theorem rB (w:World) (ho:o.Ok) (hR:aT o) (h2:0≤at') (h3:op≠oA o.k) (h4:op≠oB o.k):Calls Tryz.prog 47 #[.agg (af o),.int .i64 at',.int .i64 op,.int .i64 rd,.slice A r.length cap] w fun e w'=>e=.returned (.tuple #[.pointer none,.int .i64 9])∧Below w.heap.size w w':=by
 have gX:=hid fun W=>aY o ho W
 unfold af at gX;have nt:decide (aT o)=true:=decide_eq_true hR;have d2:decide (at'<0)=false:=decide_eq_false (by omega)
 have gL:bG o.k=true:=by
  have:=@bo o;obtain⟨k1,k2,k3,k4,k5,k6⟩:=this;unfold bG
  rcases hR with q | q | q | q | q | q
  ·rw[k1 q];rfl
  ·rw[k2 q];rfl
  ·rw[k3 q];rfl
  ·rw[k4 q];rfl
  ·rw[k5 q];rfl
  ·rw[k6 q];rfl
 have ig:=hid fun W=>bc o.k W gL
 have vT:=hid fun W=>bO o.k W gL
 clear gL;clear hR;have d3:(op != oA o.k)=true:=by simpa using h3
 have d4:(op != oB o.k)=true:=by simpa using h4
 clear h3 h4;obtain⟨n,aq⟩:∃ n,w.heap.size=n:=⟨_,rfl⟩;have hn:=RowB.new w (af o) 26;have hB:=bt w (.cells (af o) 26);rw[aq] at hn hB;unfold af at hn hB;have HN:=hid hn;have HB:=hid hB;have iS:=hid aq;clear hn hB ho;rw[aq];unfold af;go_enter Tryz.func47,Tryz.ntmps47;go_wp2_with fail;refine(gX.out _).mono ?_;rintro e w1 ⟨rfl,am⟩;have dF:=hid (HN.out.kept am);have bT:=hid (HB.out.trans (am.mono (by rw[← iS.out];exact HB.out.size)));clear am;have c0:=dF.out.at 0 (.int .i64 o.k);have c1:=dF.out.at 1 (.int .i64 o.wd);have c7:=dF.out.at 7 (.slice o.R o.nr o.cr);go_wp2_with fail;refine(ig.out _).mono ?_;rintro e wq ⟨rfl,db⟩;rw[db];clear db;go_wp2_with fail;refine(vT.out _).mono ?_;rintro e wq ⟨rfl,db⟩;rw[db];clear db;go_wp2_with fail;go_ret2;exact⟨rfl,by first | exact bT.out | (rw[← iS.out];exact bT.out)⟩
theorem xd (w:World) (ho:o.Ok) (hR:aT o) (h2:0≤at') (h3:op=oA o.k) (h5:rd<0):Calls Tryz.prog 47 #[.agg (af o),.int .i64 at',.int .i64 op,.int .i64 rd,.slice A r.length cap] w fun e w'=>e=.returned (.tuple #[.pointer none,.int .i64 5])∧Below w.heap.size w w':=by
 have gX:=hid fun W=>aY o ho W
 unfold af at gX;have nt:decide (aT o)=true:=decide_eq_true hR;have d2:decide (at'<0)=false:=decide_eq_false (by omega)
 have gL:bG o.k=true:=by
  have:=@bo o;obtain⟨k1,k2,k3,k4,k5,k6⟩:=this;unfold bG
  rcases hR with q | q | q | q | q | q
  ·rw[k1 q];rfl
  ·rw[k2 q];rfl
  ·rw[k3 q];rfl
  ·rw[k4 q];rfl
  ·rw[k5 q];rfl
  ·rw[k6 q];rfl
 have ig:=hid fun W=>bc o.k W gL
 have vT:=hid fun W=>bO o.k W gL
 clear gL;clear hR;have d3:(op != oA o.k)=false:=by simpa using h3
 have d3b:(op==oA o.k)=true:=by simpa using h3
 clear h3;have d5:decide (rd<0)=true:=decide_eq_true h5;obtain⟨n,aq⟩:∃ n,w.heap.size=n:=⟨_,rfl⟩;have hn:=RowB.new w (af o) 26;have hB:=bt w (.cells (af o) 26);rw[aq] at hn hB;unfold af at hn hB;have HN:=hid hn;have HB:=hid hB;have iS:=hid aq;clear hn hB ho;rw[aq];unfold af;go_enter Tryz.func47,Tryz.ntmps47;go_wp2_with fail;refine(gX.out _).mono ?_;rintro e w1 ⟨rfl,am⟩;have dF:=hid (HN.out.kept am);have bT:=hid (HB.out.trans (am.mono (by rw[← iS.out];exact HB.out.size)));clear am;have c0:=dF.out.at 0 (.int .i64 o.k);have c1:=dF.out.at 1 (.int .i64 o.wd);have c7:=dF.out.at 7 (.slice o.R o.nr o.cr);go_wp2_with fail;refine(ig.out _).mono ?_;rintro e wq ⟨rfl,db⟩;rw[db];clear db;go_wp2_with fail;refine(ig.out _).mono ?_;rintro e wq ⟨rfl,db⟩;rw[db];clear db;go_wp2_with fail;go_ret2;exact⟨rfl,by first | exact bT.out | (rw[← iS.out];exact bT.out)⟩
theorem sV (w:World) (ho:o.Ok) (hR:aT o) (h2:0≤at') (h3:op=oA o.k) (h5:0<rd):Calls Tryz.prog 47 #[.agg (af o),.int .i64 at',.int .i64 op,.int .i64 rd,.slice A r.length cap] w fun e w'=>e=.returned (.tuple #[.pointer none,.int .i64 5])∧Below w.heap.size w w':=by
 have gX:=hid fun W=>aY o ho W
 unfold af at gX;have nt:decide (aT o)=true:=decide_eq_true hR;have d2:decide (at'<0)=false:=decide_eq_false (by omega)
 have gL:bG o.k=true:=by
  have:=@bo o;obtain⟨k1,k2,k3,k4,k5,k6⟩:=this;unfold bG
  rcases hR with q | q | q | q | q | q
  ·rw[k1 q];rfl
  ·rw[k2 q];rfl
  ·rw[k3 q];rfl
  ·rw[k4 q];rfl
  ·rw[k5 q];rfl
  ·rw[k6 q];rfl
 have ig:=hid fun W=>bc o.k W gL
 have vT:=hid fun W=>bO o.k W gL
 clear gL;clear hR;have d3:(op != oA o.k)=false:=by simpa using h3
 have d3b:(op==oA o.k)=true:=by simpa using h3
 clear h3;have d5:decide (rd<0)=false:=decide_eq_false (by omega);have d6:decide (0<rd)=true:=decide_eq_true h5;obtain⟨n,aq⟩:∃ n,w.heap.size=n:=⟨_,rfl⟩;have hn:=RowB.new w (af o) 26;have hB:=bt w (.cells (af o) 26);rw[aq] at hn hB;unfold af at hn hB;have HN:=hid hn;have HB:=hid hB;have iS:=hid aq;clear hn hB ho;rw[aq];unfold af;go_enter Tryz.func47,Tryz.ntmps47;go_wp2_with fail;refine(gX.out _).mono ?_;rintro e w1 ⟨rfl,am⟩;have dF:=hid (HN.out.kept am);have bT:=hid (HB.out.trans (am.mono (by rw[← iS.out];exact HB.out.size)));clear am;have c0:=dF.out.at 0 (.int .i64 o.k);have c1:=dF.out.at 1 (.int .i64 o.wd);have c7:=dF.out.at 7 (.slice o.R o.nr o.cr);go_wp2_with fail;refine(ig.out _).mono ?_;rintro e wq ⟨rfl,db⟩;rw[db];clear db;go_wp2_with fail;refine(ig.out _).mono ?_;rintro e wq ⟨rfl,db⟩;rw[db];clear db;go_wp2_with fail;go_ret2;exact⟨rfl,by first | exact bT.out | (rw[← iS.out];exact bT.out)⟩
theorem wY (w:World) (ho:o.Ok) (hR:aT o) (h2:0≤at') (h3:op=oA o.k) (h5:0≤rd) (h6:rd<(o.nr:Int)) (h7:rd≤0) (h8:(r.length:Int)≠o.wd):Calls Tryz.prog 47 #[.agg (af o),.int .i64 at',.int .i64 op,.int .i64 rd,.slice A r.length cap] w fun e w'=>e=.returned (.tuple #[.pointer none,.int .i64 4])∧Below w.heap.size w w':=by
 have gX:=hid fun W=>aY o ho W
 unfold af at gX;have nt:decide (aT o)=true:=decide_eq_true hR;have d2:decide (at'<0)=false:=decide_eq_false (by omega)
 have gL:bG o.k=true:=by
  have:=@bo o;obtain⟨k1,k2,k3,k4,k5,k6⟩:=this;unfold bG
  rcases hR with q | q | q | q | q | q
  ·rw[k1 q];rfl
  ·rw[k2 q];rfl
  ·rw[k3 q];rfl
  ·rw[k4 q];rfl
  ·rw[k5 q];rfl
  ·rw[k6 q];rfl
 have ig:=hid fun W=>bc o.k W gL
 have vT:=hid fun W=>bO o.k W gL
 clear gL;clear hR;have d3:(op != oA o.k)=false:=by simpa using h3
 have d3b:(op==oA o.k)=true:=by simpa using h3
 clear h3;have d5:decide (rd<0)=false:=decide_eq_false (by omega);have d7:decide ((o.nr:Int)≤rd)=false:=decide_eq_false (by omega);have d6:decide (0<rd)=false:=decide_eq_false (by omega);have d8:((r.length:Int) != o.wd)=true:=by simpa using h8
 obtain⟨n,aq⟩:∃ n,w.heap.size=n:=⟨_,rfl⟩;have hn:=RowB.new w (af o) 26;have hB:=bt w (.cells (af o) 26);rw[aq] at hn hB;unfold af at hn hB;have HN:=hid hn;have HB:=hid hB;have iS:=hid aq;clear hn hB ho;rw[aq];unfold af;go_enter Tryz.func47,Tryz.ntmps47;go_wp2_with fail;refine(gX.out _).mono ?_;rintro e w1 ⟨rfl,am⟩;have dF:=hid (HN.out.kept am);have bT:=hid (HB.out.trans (am.mono (by rw[← iS.out];exact HB.out.size)));clear am;have c0:=dF.out.at 0 (.int .i64 o.k);have c1:=dF.out.at 1 (.int .i64 o.wd);have c7:=dF.out.at 7 (.slice o.R o.nr o.cr);go_wp2_with fail;refine(ig.out _).mono ?_;rintro e wq ⟨rfl,db⟩;rw[db];clear db;go_wp2_with fail;refine(ig.out _).mono ?_;rintro e wq ⟨rfl,db⟩;rw[db];clear db;go_wp2_with fail;go_ret2;exact⟨rfl,by first | exact bT.out | (rw[← iS.out];exact bT.out)⟩
theorem uQ (w:World) (ho:o.Ok) (hR:aT o) (h2:0≤at') (h3:op≠oA o.k) (h4:op=oB o.k) (h5:rd<0):Calls Tryz.prog 47 #[.agg (af o),.int .i64 at',.int .i64 op,.int .i64 rd,.slice A r.length cap] w fun e w'=>e=.returned (.tuple #[.pointer none,.int .i64 5])∧Below w.heap.size w w':=by
 have gX:=hid fun W=>aY o ho W
 unfold af at gX;have nt:decide (aT o)=true:=decide_eq_true hR;have d2:decide (at'<0)=false:=decide_eq_false (by omega)
 have gL:bG o.k=true:=by
  have:=@bo o;obtain⟨k1,k2,k3,k4,k5,k6⟩:=this;unfold bG
  rcases hR with q | q | q | q | q | q
  ·rw[k1 q];rfl
  ·rw[k2 q];rfl
  ·rw[k3 q];rfl
  ·rw[k4 q];rfl
  ·rw[k5 q];rfl
  ·rw[k6 q];rfl
 have ig:=hid fun W=>bc o.k W gL
 have vT:=hid fun W=>bO o.k W gL
 clear gL;clear hR;have d3:(op != oA o.k)=true:=by simpa using h3
 have d3b:(op==oA o.k)=false:=by simpa using h3
 have d4:(op != oB o.k)=false:=by simpa using h4
 clear h3 h4;have d5:decide (rd<0)=true:=decide_eq_true h5;obtain⟨n,aq⟩:∃ n,w.heap.size=n:=⟨_,rfl⟩;have hn:=RowB.new w (af o) 26;have hB:=bt w (.cells (af o) 26);rw[aq] at hn hB;unfold af at hn hB;have HN:=hid hn;have HB:=hid hB;have iS:=hid aq;clear hn hB ho;rw[aq];unfold af;go_enter Tryz.func47,Tryz.ntmps47;go_wp2_with fail;refine(gX.out _).mono ?_;rintro e w1 ⟨rfl,am⟩;have dF:=hid (HN.out.kept am);have bT:=hid (HB.out.trans (am.mono (by rw[← iS.out];exact HB.out.size)));clear am;have c0:=dF.out.at 0 (.int .i64 o.k);have c1:=dF.out.at 1 (.int .i64 o.wd);have c7:=dF.out.at 7 (.slice o.R o.nr o.cr);go_wp2_with fail;refine(ig.out _).mono ?_;rintro e wq ⟨rfl,db⟩;rw[db];clear db;go_wp2_with fail;refine(vT.out _).mono ?_;rintro e wq ⟨rfl,db⟩;rw[db];clear db;go_wp2_with fail;refine(ig.out _).mono ?_;rintro e wq ⟨rfl,db⟩;rw[db];clear db;go_wp2_with fail;go_ret2;exact⟨rfl,by first | exact bT.out | (rw[← iS.out];exact bT.out)⟩
theorem sp (w:World) (ho:o.Ok) (hR:aT o) (h2:0≤at') (h3:op≠oA o.k) (h4:op=oB o.k) (h5:0≤rd) (h6:(o.nr:Int)≤rd):Calls Tryz.prog 47 #[.agg (af o),.int .i64 at',.int .i64 op,.int .i64 rd,.slice A r.length cap] w fun e w'=>e=.returned (.tuple #[.pointer none,.int .i64 5])∧Below w.heap.size w w':=by
 have gX:=hid fun W=>aY o ho W
 unfold af at gX;have nt:decide (aT o)=true:=decide_eq_true hR;have d2:decide (at'<0)=false:=decide_eq_false (by omega)
 have gL:bG o.k=true:=by
  have:=@bo o;obtain⟨k1,k2,k3,k4,k5,k6⟩:=this;unfold bG
  rcases hR with q | q | q | q | q | q
  ·rw[k1 q];rfl
  ·rw[k2 q];rfl
  ·rw[k3 q];rfl
  ·rw[k4 q];rfl
  ·rw[k5 q];rfl
  ·rw[k6 q];rfl
 have ig:=hid fun W=>bc o.k W gL
 have vT:=hid fun W=>bO o.k W gL
 clear gL;clear hR;have d3:(op != oA o.k)=true:=by simpa using h3
 have d3b:(op==oA o.k)=false:=by simpa using h3
 have d4:(op != oB o.k)=false:=by simpa using h4
 clear h3 h4;have d5:decide (rd<0)=false:=decide_eq_false (by omega);have d7:decide ((o.nr:Int)≤rd)=true:=decide_eq_true h6;obtain⟨n,aq⟩:∃ n,w.heap.size=n:=⟨_,rfl⟩;have hn:=RowB.new w (af o) 26;have hB:=bt w (.cells (af o) 26);rw[aq] at hn hB;unfold af at hn hB;have HN:=hid hn;have HB:=hid hB;have iS:=hid aq;clear hn hB ho;rw[aq];unfold af;go_enter Tryz.func47,Tryz.ntmps47;go_wp2_with fail;refine(gX.out _).mono ?_;rintro e w1 ⟨rfl,am⟩;have dF:=hid (HN.out.kept am);have bT:=hid (HB.out.trans (am.mono (by rw[← iS.out];exact HB.out.size)));clear am;have c0:=dF.out.at 0 (.int .i64 o.k);have c1:=dF.out.at 1 (.int .i64 o.wd);have c7:=dF.out.at 7 (.slice o.R o.nr o.cr);go_wp2_with fail;refine(ig.out _).mono ?_;rintro e wq ⟨rfl,db⟩;rw[db];clear db;go_wp2_with fail;refine(vT.out _).mono ?_;rintro e wq ⟨rfl,db⟩;rw[db];clear db;go_wp2_with fail;refine(ig.out _).mono ?_;rintro e wq ⟨rfl,db⟩;rw[db];clear db;go_wp2_with fail;go_ret2;exact⟨rfl,by first | exact bT.out | (rw[← iS.out];exact bT.out)⟩
theorem vY (w:World) (ho:o.Ok) (hR:aT o) (h2:0≤at') (h3:op≠oA o.k) (h4:op=oB o.k) (h5:0≤rd) (h6:rd<(o.nr:Int)) (h8:0<r.length):Calls Tryz.prog 47 #[.agg (af o),.int .i64 at',.int .i64 op,.int .i64 rd,.slice A r.length cap] w fun e w'=>e=.returned (.tuple #[.pointer none,.int .i64 4])∧Below w.heap.size w w':=by
 have gX:=hid fun W=>aY o ho W
 unfold af at gX;have nt:decide (aT o)=true:=decide_eq_true hR;have d2:decide (at'<0)=false:=decide_eq_false (by omega)
 have gL:bG o.k=true:=by
  have:=@bo o;obtain⟨k1,k2,k3,k4,k5,k6⟩:=this;unfold bG
  rcases hR with q | q | q | q | q | q
  ·rw[k1 q];rfl
  ·rw[k2 q];rfl
  ·rw[k3 q];rfl
  ·rw[k4 q];rfl
  ·rw[k5 q];rfl
  ·rw[k6 q];rfl
 have ig:=hid fun W=>bc o.k W gL
 have vT:=hid fun W=>bO o.k W gL
 clear gL;clear hR;have d3:(op != oA o.k)=true:=by simpa using h3
 have d3b:(op==oA o.k)=false:=by simpa using h3
 have d4:(op != oB o.k)=false:=by simpa using h4
 clear h3 h4;have d5:decide (rd<0)=false:=decide_eq_false (by omega);have d7:decide ((o.nr:Int)≤rd)=false:=decide_eq_false (by omega);have d8:decide ((0:Int)<(r.length:Int))=true:=decide_eq_true (by omega);have d8n:decide (0<r.length)=true:=decide_eq_true h8;obtain⟨n,aq⟩:∃ n,w.heap.size=n:=⟨_,rfl⟩;have hn:=RowB.new w (af o) 26;have hB:=bt w (.cells (af o) 26);rw[aq] at hn hB;unfold af at hn hB;have HN:=hid hn;have HB:=hid hB;have iS:=hid aq;clear hn hB ho;rw[aq];unfold af;go_enter Tryz.func47,Tryz.ntmps47;go_wp2_with fail;refine(gX.out _).mono ?_;rintro e w1 ⟨rfl,am⟩;have dF:=hid (HN.out.kept am);have bT:=hid (HB.out.trans (am.mono (by rw[← iS.out];exact HB.out.size)));clear am;have c0:=dF.out.at 0 (.int .i64 o.k);have c1:=dF.out.at 1 (.int .i64 o.wd);have c7:=dF.out.at 7 (.slice o.R o.nr o.cr);go_wp2_with fail;refine(ig.out _).mono ?_;rintro e wq ⟨rfl,db⟩;rw[db];clear db;go_wp2_with fail;refine(vT.out _).mono ?_;rintro e wq ⟨rfl,db⟩;rw[db];clear db;go_wp2_with fail;refine(ig.out _).mono ?_;rintro e wq ⟨rfl,db⟩;rw[db];clear db;go_wp2_with fail;go_ret2;exact⟨rfl,by first | exact bT.out | (rw[← iS.out];exact bT.out)⟩
theorem wk (w:World) (ho:o.Ok) (hR:aT o) (h2:0≤at') (h3:op=oA o.k) (h5:0≤rd) (h6:rd<(o.nr:Int)) (h7:rd≤0) (h8:(r.length:Int)=o.wd) (hl:r.length≤1000000) (hr:Ws w w.heap.size A r):Calls Tryz.prog 47 #[.agg (af o),.int .i64 at',.int .i64 op,.int .i64 rd,.slice A r.length cap] w fun e w'=>∃ yb,e=.returned (.tuple #[.pointer (some ⟨yb,0,none⟩),.int .i64 0])∧Below w.heap.size w w'∧w.heap.size≤yb∧∃ rv,RowB w' yb (kv o at' op rd rv) 84∧Own (bB .u32) 22 w.heap.size w' rv r∧rv.ownBlock≠some yb:=by
 have gX:=hid fun W=>aY o ho W
 unfold af at gX;have nt:decide (aT o)=true:=decide_eq_true hR;have d2:decide (at'<0)=false:=decide_eq_false (by omega)
 have gL:bG o.k=true:=by
  have:=@bo o;obtain⟨k1,k2,k3,k4,k5,k6⟩:=this;unfold bG
  rcases hR with q | q | q | q | q | q
  ·rw[k1 q];rfl
  ·rw[k2 q];rfl
  ·rw[k3 q];rfl
  ·rw[k4 q];rfl
  ·rw[k5 q];rfl
  ·rw[k6 q];rfl
 have ig:=hid fun W=>bc o.k W gL
 have vT:=hid fun W=>bO o.k W gL
 clear gL;clear hR;have d3:(op != oA o.k)=false:=by simpa using h3
 have d3b:(op==oA o.k)=true:=by simpa using h3
 clear h3;have d5:decide (rd<0)=false:=decide_eq_false (by omega);have d7:decide ((o.nr:Int)≤rd)=false:=decide_eq_false (by omega);have d6:decide (0<rd)=false:=decide_eq_false (by omega);have d8:((r.length:Int) != o.wd)=false:=by simpa using h8
 clear h8;obtain⟨n,aq⟩:∃ n,w.heap.size=n:=⟨_,rfl⟩;have hn:=RowB.new w (af o) 26;have hB:=bt w (.cells (af o) 26);rw[aq] at hn hB;unfold af at hn hB;have HN:=hid hn;have HB:=hid hB;have iS:=hid aq;clear hn hB ho;rw[aq];unfold af;have HR:=hid hr;have HL:=hid hl;clear hr hl;go_enter Tryz.func47,Tryz.ntmps47;go_wp2_with fail;refine(gX.out _).mono ?_;rintro e w1 ⟨rfl,am⟩;have dF:=hid (HN.out.kept am);have bT:=hid (HB.out.trans (am.mono (by rw[← iS.out];exact HB.out.size)));clear am;have c0:=dF.out.at 0 (.int .i64 o.k);have c1:=dF.out.at 1 (.int .i64 o.wd);have c7:=dF.out.at 7 (.slice o.R o.nr o.cr);go_wp2_with fail;refine(ig.out _).mono ?_;rintro e wq ⟨rfl,db⟩;rw[db];clear db;go_wp2_with fail;refine(ig.out _).mono ?_;rintro e wq ⟨rfl,db⟩;rw[db];clear db;go_wp2_with fail;clear c0 c1 c7;have eg:=hid (dF.out.kept (Below.refl _ w1).drew);have cw:=hid (show Below w.heap.size w w1.drew from by rw[iS.out];exact bT.out.drew);refine dR (S:=(k9 n o)) (by and_intros <;> exact eg.out.c rfl) fun w2 aW hHeld=>?_
 rw[aW] at eg cw;clear aW;refine ap 0 1 2 3 ?_;refine aF 5 ?_;refine aJ 4 (fun K hK=>?_)
 ·go_simp;have ck:=bt w2 (.cells #[] 22);have tE:=World.ownsRow_lit (base:=w2.heap.size) (e:=22) (size:=1) w2 #[] 0 (Nat.le_refl _) (by simp[maxLen]) rfl;have uS:=hid tE;have iJ:=hid (eg.out.kept ck);have ic:=hid (cw.out.trans (ck.mono cw.out.size));have rZ:=hid ck;have aN:(k9 n o) (w2.alloc (.cells #[] 22)):=(by and_intros <;> exact iJ.out.c rfl);clear ck tE;refine kH hK aN fun hHeld=>?_
  clear hK K;refine aJ 6 (fun K hK=>?_)
  ·refine iA (by rfl) (.tmp 74) (.tmp 75) (by rfl) uS.out (by rfl) (by rfl) rfl (HR.out.below (cw.out.trans (rZ.out.mono cw.out.size)) (Nat.le_refl _)) (by have:=HL.out;omega) (by rw[World.size_alloc];omega) ?_;intro v7 w7 dv jN o0;simp only[Nat.zero_add,List.nil_append] at dv;obtain⟨A9,M9,c9,rfl⟩:=aR dv;have r9:=hid (rZ.out.trans (dG uS.out jN (Nat.le_refl _) (by rw[World.size_alloc];omega)));have Dg:=hid dv;have im:=hid (eg.out.below r9.out eg.out.lt);have BI:(k9 n o) w7:=(by and_intros <;> exact im.out.c rfl);clear dv jN o0;refine kH hK BI fun hHeld=>?_
   clear hK K;refine aF 7 ?_;refine aJ 8 (fun K hK=>?_)
   ·go_simp;have bm:=RowB.new w7 (kv o at' op rd (.slice A9 M9 c9)) 84;have sJ:=bt w7 (.cells (kv o at' op rd (.slice A9 M9 c9)) 84);have yz:=hid bm;have Df:=hid sJ;have G5:(k9 n o) (w7.alloc (.cells (kv o at' op rd (.slice A9 M9 c9)) 84)):=(fun hn=>(by and_intros <;> exact hn.c rfl)) (im.out.kept sJ);unfold kv at G5;clear bm sJ;refine kH hK G5 fun hHeld=>?_
    clear hK K;refine bw 9 10 ?_;refine bh ?_;clear hHeld;go_wp2_with fail;go_ret2;have Lz:=r9.out.size;have gl:=cw.out.size;rw[← iS.out];have hz:=cw.out.trans (r9.out.mono gl);refine⟨w7.heap.size,rfl,hz.trans (Df.out.mono hz.size),by omega,.slice A9 M9 c9,yz.out,?_,?_⟩
    ·have iY:(bB .u32).all r=r.map (Value.int .u32):=eY _ _ r
     have h1:Own (bB .u32) 22 w2.heap.size w7 (.slice A9 M9 c9) r:=by
      unfold Own;rw[iY];exact Dg.out
     exact(h1.below Df.out (Nat.le_refl _)).mono gl
    ·intro e;have:=(World.ownsRow.lt Dg.out _ e).2;omega
theorem wh (w:World) (ho:o.Ok) (hR:aT o) (h2:0≤at') (h3:op≠oA o.k) (h4:op=oB o.k) (h5:0≤rd) (h6:rd<(o.nr:Int)) (h8:r.length=0) (hl:r.length≤1000000) (hr:Ws w w.heap.size A r):Calls Tryz.prog 47 #[.agg (af o),.int .i64 at',.int .i64 op,.int .i64 rd,.slice A r.length cap] w fun e w'=>∃ yb,e=.returned (.tuple #[.pointer (some ⟨yb,0,none⟩),.int .i64 0])∧Below w.heap.size w w'∧w.heap.size≤yb∧∃ rv,RowB w' yb (kv o at' op rd rv) 84∧Own (bB .u32) 22 w.heap.size w' rv r∧rv.ownBlock≠some yb:=by
 have gX:=hid fun W=>aY o ho W
 unfold af at gX;have nt:decide (aT o)=true:=decide_eq_true hR;have d2:decide (at'<0)=false:=decide_eq_false (by omega)
 have gL:bG o.k=true:=by
  have:=@bo o;obtain⟨k1,k2,k3,k4,k5,k6⟩:=this;unfold bG
  rcases hR with q | q | q | q | q | q
  ·rw[k1 q];rfl
  ·rw[k2 q];rfl
  ·rw[k3 q];rfl
  ·rw[k4 q];rfl
  ·rw[k5 q];rfl
  ·rw[k6 q];rfl
 have ig:=hid fun W=>bc o.k W gL
 have vT:=hid fun W=>bO o.k W gL
 clear gL;clear hR;have d3:(op != oA o.k)=true:=by simpa using h3
 have d3b:(op==oA o.k)=false:=by simpa using h3
 have d4:(op != oB o.k)=false:=by simpa using h4
 clear h3 h4;have d5:decide (rd<0)=false:=decide_eq_false (by omega);have d7:decide ((o.nr:Int)≤rd)=false:=decide_eq_false (by omega);have d8:decide ((0:Int)<(r.length:Int))=false:=decide_eq_false (by omega);have d8n:decide (0<r.length)=false:=decide_eq_false (by omega);clear h8;obtain⟨n,aq⟩:∃ n,w.heap.size=n:=⟨_,rfl⟩;have hn:=RowB.new w (af o) 26;have hB:=bt w (.cells (af o) 26);rw[aq] at hn hB;unfold af at hn hB;have HN:=hid hn;have HB:=hid hB;have iS:=hid aq;clear hn hB ho;rw[aq];unfold af;have HR:=hid hr;have HL:=hid hl;clear hr hl;go_enter Tryz.func47,Tryz.ntmps47;go_wp2_with fail;refine(gX.out _).mono ?_;rintro e w1 ⟨rfl,am⟩;have dF:=hid (HN.out.kept am);have bT:=hid (HB.out.trans (am.mono (by rw[← iS.out];exact HB.out.size)));clear am;have c0:=dF.out.at 0 (.int .i64 o.k);have c1:=dF.out.at 1 (.int .i64 o.wd);have c7:=dF.out.at 7 (.slice o.R o.nr o.cr);go_wp2_with fail;refine(ig.out _).mono ?_;rintro e wq ⟨rfl,db⟩;rw[db];clear db;go_wp2_with fail;refine(vT.out _).mono ?_;rintro e wq ⟨rfl,db⟩;rw[db];clear db;go_wp2_with fail;refine(ig.out _).mono ?_;rintro e wq ⟨rfl,db⟩;rw[db];clear db;go_wp2_with fail;clear c0 c1 c7;have eg:=hid (dF.out.kept (Below.refl _ w1).drew);have cw:=hid (show Below w.heap.size w w1.drew from by rw[iS.out];exact bT.out.drew);refine dR (S:=(k9 n o)) (by and_intros <;> exact eg.out.c rfl) fun w2 aW hHeld=>?_
 rw[aW] at eg cw;clear aW;refine ap 0 1 2 3 ?_;refine aF 5 ?_;refine aJ 4 (fun K hK=>?_)
 ·go_simp;have ck:=bt w2 (.cells #[] 22);have tE:=World.ownsRow_lit (base:=w2.heap.size) (e:=22) (size:=1) w2 #[] 0 (Nat.le_refl _) (by simp[maxLen]) rfl;have uS:=hid tE;have iJ:=hid (eg.out.kept ck);have ic:=hid (cw.out.trans (ck.mono cw.out.size));have rZ:=hid ck;have aN:(k9 n o) (w2.alloc (.cells #[] 22)):=(by and_intros <;> exact iJ.out.c rfl);clear ck tE;refine kH hK aN fun hHeld=>?_
  clear hK K;refine aJ 6 (fun K hK=>?_)
  ·refine iA (by rfl) (.tmp 74) (.tmp 75) (by rfl) uS.out (by rfl) (by rfl) rfl (HR.out.below (cw.out.trans (rZ.out.mono cw.out.size)) (Nat.le_refl _)) (by have:=HL.out;omega) (by rw[World.size_alloc];omega) ?_;intro v7 w7 dv jN o0;simp only[Nat.zero_add,List.nil_append] at dv;obtain⟨A9,M9,c9,rfl⟩:=aR dv;have r9:=hid (rZ.out.trans (dG uS.out jN (Nat.le_refl _) (by rw[World.size_alloc];omega)));have Dg:=hid dv;have im:=hid (eg.out.below r9.out eg.out.lt);have BI:(k9 n o) w7:=(by and_intros <;> exact im.out.c rfl);clear dv jN o0;refine kH hK BI fun hHeld=>?_
   clear hK K;refine aF 7 ?_;refine aJ 8 (fun K hK=>?_)
   ·go_simp;have bm:=RowB.new w7 (kv o at' op rd (.slice A9 M9 c9)) 84;have sJ:=bt w7 (.cells (kv o at' op rd (.slice A9 M9 c9)) 84);have yz:=hid bm;have Df:=hid sJ;have G5:(k9 n o) (w7.alloc (.cells (kv o at' op rd (.slice A9 M9 c9)) 84)):=(fun hn=>(by and_intros <;> exact hn.c rfl)) (im.out.kept sJ);unfold kv at G5;clear bm sJ;refine kH hK G5 fun hHeld=>?_
    clear hK K;refine bw 9 10 ?_;refine bh ?_;clear hHeld;go_wp2_with fail;go_ret2;have Lz:=r9.out.size;have gl:=cw.out.size;rw[← iS.out];have hz:=cw.out.trans (r9.out.mono gl);refine⟨w7.heap.size,rfl,hz.trans (Df.out.mono hz.size),by omega,.slice A9 M9 c9,yz.out,?_,?_⟩
    ·have iY:(bB .u32).all r=r.map (Value.int .u32):=eY _ _ r
     have h1:Own (bB .u32) 22 w2.heap.size w7 (.slice A9 M9 c9) r:=by
      unfold Own;rw[iY];exact Dg.out
     exact(h1.below Df.out (Nat.le_refl _)).mono gl
    ·intro e;have:=(World.ownsRow.lt Dg.out _ e).2;omega
end
section
variable (o:Ob) (at' op rd:Int) (A:Option Addr) (cap:Nat) (r:List Int)
def si (w:World) (y:Option Addr) (w':World):Prop:=
 Below w.heap.size w w'∧(cZ o at' op rd r.length≠0→y=none)∧(cZ o at' op rd r.length=0→∃ yb rv,y=some ⟨yb,0,none⟩∧w.heap.size≤yb∧RowB w' yb (vn o (kW o at' op rd r) rv) 84∧Own (bB .u32) 22 w.heap.size w' rv r∧rv.ownBlock≠some yb)
theorem yS (ho:o.Ok) (w:World) (hl:r.length≤1000000) (hr:Ws w w.heap.size A r):
  Calls Tryz.prog 47 #[.agg (af o),.int .i64 at',.int .i64 op,.int .i64 rd,.slice A r.length cap] w fun e w'=>∃ y,e=.returned (.tuple #[.pointer y,.int .i64 (cZ o at' op rd r.length)])∧si o at' op rd r w y w':=by
 have er:∀ code:Int,cZ o at' op rd r.length=code→code≠0→(Calls Tryz.prog 47 #[.agg (af o),.int .i64 at',.int .i64 op,.int .i64 rd,.slice A r.length cap] w fun e w'=>e=.returned (.tuple #[.pointer none,.int .i64 code])∧Below w.heap.size w w')→
   Calls Tryz.prog 47 #[.agg (af o),.int .i64 at',.int .i64 op,.int .i64 rd,.slice A r.length cap] w fun e w'=>∃ y,e=.returned (.tuple #[.pointer y,.int .i64 (cZ o at' op rd r.length)])∧si o at' op rd r w y w':=fun code hc h0 h=>h.mono fun e w' q=>by
  obtain⟨q1,q2⟩:=q;exact⟨none,by rw[q1,hc],q2,fun _=>rfl,fun q=>absurd (hc.symm.trans q) h0⟩
 have ok:cZ o at' op rd r.length=0→(Calls Tryz.prog 47 #[.agg (af o),.int .i64 at',.int .i64 op,.int .i64 rd,.slice A r.length cap] w fun e w'=>∃ yb,e=.returned (.tuple #[.pointer (some ⟨yb,0,none⟩),.int .i64 0])∧Below w.heap.size w w'∧w.heap.size≤yb∧∃ rv,RowB w' yb (kv o at' op rd rv) 84∧Own (bB .u32) 22 w.heap.size w' rv r∧rv.ownBlock≠some yb)→
   Calls Tryz.prog 47 #[.agg (af o),.int .i64 at',.int .i64 op,.int .i64 rd,.slice A r.length cap] w fun e w'=>∃ y,e=.returned (.tuple #[.pointer y,.int .i64 (cZ o at' op rd r.length)])∧si o at' op rd r w y w':=fun hc h=>h.mono fun e w' q=>by
  obtain⟨yb,q1,q2,q3,rv,q4,q5,q6⟩:=q;obtain⟨_,_,zS,NY,_⟩:=jM hc
  have bm:kv o at' op rd rv=vn o (kW o at' op rd r) rv:=by
   have e1:((kW o at' op rd r).base:Int)=at':=by show((at'.toNat:Nat):Int)=at';omega
   have e2:((kW o at' op rd r).rd:Int)=rd:=by show((rd.toNat:Nat):Int)=rd;omega
   unfold kv vn;rw[e1,e2];rfl
  exact⟨some ⟨yb,0,none⟩,by rw[q1,hc],q2,fun q=>absurd hc q,fun _=>⟨yb,rv,rfl,q3,by rw[← bm];exact q4,q5,q6⟩⟩
 by_cases hR:aT o
 ·have hb:=gP hR
  have hz:1≤av o:=by
   rcases bQ hR with ⟨_,q⟩ | ⟨_,q⟩ | ⟨_,q⟩ | ⟨_,q⟩ | ⟨_,q⟩ | ⟨_,q⟩
   ·rw[eR q];have:=gb q;omega
   ·rw[eS q];have:=f7 q;have:=Int.mul_nonneg (show 0≤(o.nr:Int)+2 by omega) (show 0≤o.wd by omega);omega
   ·rw[fE q];have:=gj q;omega
   ·rw[eU q];have:=dc q;have:=Int.mul_nonneg (show 0≤o.s by omega) (show 0≤o.wd by omega);omega
   ·rw[fG q];have:=eM q;have:=Int.mul_nonneg (show 0≤o.s by omega) (show 0≤o.wd by omega);omega
   ·rw[eP q];have:=ea q;have:=Int.mul_nonneg (show 0≤o.s by omega) (show 0≤o.wd by omega);omega
  by_cases h2:at'<0
  ·exact er 1 (by unfold cZ lz;rw[if_pos (.inr h2)]) (by decide) (wG o at' op rd A cap r w ho hR h2)
  ·have pZ:¬ (av o<1∨at'<0):=by omega
   by_cases h3:op=oA o.k
   ·have e0:cZ o at' op rd r.length=if rd<0∨1≤rd then 5 else if (r.length:Int)≠o.wd then 4 else 0:=by unfold cZ lz;rw[if_neg pZ,if_pos h3]
    by_cases h5:rd<0
    ·exact er 5 (by rw[e0,if_pos (.inl h5)]) (by decide) (xd o at' op rd A cap r w ho hR (by omega) h3 h5)
    ·by_cases h6:0<rd
     ·exact er 5 (by rw[e0,if_pos (.inr (by omega))]) (by decide) (sV o at' op rd A cap r w ho hR (by omega) h3 h6)
     ·have hn:¬ (rd<0∨1≤rd):=by omega
      by_cases h8:(r.length:Int)=o.wd
      ·exact ok (by rw[e0,if_neg hn,if_neg (fun q=>q h8)]) (wk o at' op rd A cap r w ho hR (by omega) h3 (by omega) (by omega) (by omega) h8 hl hr)
      ·exact er 4 (by rw[e0,if_neg hn,if_pos h8]) (by decide) (wY o at' op rd A cap r w ho hR (by omega) h3 (by omega) (by omega) (by omega) h8)
   ·by_cases h4:op=oB o.k
    ·have e0:cZ o at' op rd r.length=if rd<0∨(o.nr:Int)≤rd then 5 else if (r.length:Int)≠0 then 4 else 0:=by unfold cZ lz;rw[if_neg pZ,if_neg h3,if_pos h4]
     by_cases h5:rd<0
     ·exact er 5 (by rw[e0,if_pos (.inl h5)]) (by decide) (uQ o at' op rd A cap r w ho hR (by omega) h3 h4 h5)
     ·by_cases h6:(o.nr:Int)≤rd
      ·exact er 5 (by rw[e0,if_pos (.inr h6)]) (by decide) (sp o at' op rd A cap r w ho hR (by omega) h3 h4 (by omega) h6)
      ·have hn:¬ (rd<0∨(o.nr:Int)≤rd):=by omega
       by_cases h8:r.length=0
       ·exact ok (by rw[e0,if_neg hn,if_neg (fun q=>q (by omega))]) (wh o at' op rd A cap r w ho hR (by omega) h3 h4 (by omega) (by omega) h8 hl hr)
       ·exact er 4 (by rw[e0,if_neg hn,if_pos (by omega)]) (by decide) (vY o at' op rd A cap r w ho hR (by omega) h3 h4 (by omega) (by omega) (by omega))
    ·exact er 9 (by unfold cZ lz;rw[if_neg pZ,if_neg h3,if_neg h4]) (by decide) (rB o at' op rd A cap r w ho hR (by omega) h3 h4)
 ·exact er 1 (by unfold cZ lz;rw[if_pos (.inl (by rw[cH hR];decide))]) (by decide) (oM o at' op rd A cap r w ho hR)
end
end Go.Proofs.YtolmpehgeinlkaaGreatDoor
