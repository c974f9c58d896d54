/- Parts of the proof. -/
import Derived.Test.YtfmbcoeallmnnaaGreatDoorC2
namespace Go.Proofs.YtfmbcoeallmnnaaGreatDoor
open Go.ChangeShapes Go.WideShapes Go.ChangeAt Go.RowKit
set_option linter.unusedVariables false
set_option linter.unusedSimpArgs false
def isAgg (op:Int):Bool:=decide (21≤op∧op≤28)
def aV (op:Int):Bool:=decide (op=4∨op=16∨op=17)
def bc (op:Int):Int:=if op=27∨op=28 then 2 else if 22≤op∧op≤26 then 1 else 0
def cE (op:Int):Int:=if op=1∨op=2∨op=21 then 0 else if op=3∨op=4∨op=18∨op=19∨op=20∨(22≤op∧op≤26)then 1 else if (5≤op∧op≤17)∨op=27∨op=28 then 2 else -1
def bV (op:Int):Int:=if op=4∨op=16∨op=17 then 1 else if op=3∨(5≤op∧op≤9)∨op=20 then 2 else 0
set_option maxHeartbeats 1000000
theorem bM (op:Int)(h0:0≤op)(h1:op≤255)(w:World):Calls Tryz.prog 59 #[.int .u8 op] w fun e w'=>e=.returned (.bool (isAgg op))∧w=w':=by
 have hc:(0≤op∧op≤20)∨(21≤op∧op≤28)∨(29≤op∧op≤255):=by omega
 rcases hc with ⟨a0,a1⟩|⟨a0,a1⟩|⟨a0,a1⟩
 ·rw[show isAgg op=false by unfold isAgg;simp;omega];have q1:decide (21≤op)=false:=decide_eq_false (by omega);have q2:decide (op≤28)=true:=decide_eq_true (by omega);go_enter Tryz.func59,Tryz.ntmps59;go_wp2_with (fail);go_ret;exact⟨rfl,rfl⟩
 ·rw[show isAgg op=true by unfold isAgg;simp;omega];have q1:decide (21≤op)=true:=decide_eq_true (by omega);have q2:decide (op≤28)=true:=decide_eq_true (by omega);go_enter Tryz.func59,Tryz.ntmps59;go_wp2_with (fail);go_ret;exact⟨rfl,rfl⟩
 ·rw[show isAgg op=false by unfold isAgg;simp;omega];have q1:decide (21≤op)=true:=decide_eq_true (by omega);have q2:decide (op≤28)=false:=decide_eq_false (by omega);go_enter Tryz.func59,Tryz.ntmps59;go_wp2_with (fail);go_ret;exact⟨rfl,rfl⟩
theorem cx (op:Int)(h0:0≤op)(h1:op≤255)(w:World):Calls Tryz.prog 101 #[.int .u8 op] w fun e w'=>e=.returned (.bool (aV op))∧w=w':=by
 have hc:(0≤op∧op≤3)∨(4≤op∧op≤4)∨(5≤op∧op≤15)∨(16≤op∧op≤16)∨(17≤op∧op≤17)∨(18≤op∧op≤255):=by omega
 rcases hc with ⟨a0,a1⟩|⟨a0,a1⟩|⟨a0,a1⟩|⟨a0,a1⟩|⟨a0,a1⟩|⟨a0,a1⟩
 ·rw[show aV op=false by unfold aV;simp;omega];have q1:(op==4)=false:=by simp;omega
  have q2:(op==16)=false:=by simp;omega
  have q3:(op==17)=false:=by simp;omega
  go_enter Tryz.func101,Tryz.ntmps101;go_wp2_with (fail);go_ret;exact⟨rfl,rfl⟩
 ·rw[show aV op=true by unfold aV;simp;omega];have q1:(op==4)=true:=by simp;omega
  have q2:(op==16)=false:=by simp;omega
  have q3:(op==17)=false:=by simp;omega
  go_enter Tryz.func101,Tryz.ntmps101;go_wp2_with (fail);go_ret;exact⟨rfl,rfl⟩
 ·rw[show aV op=false by unfold aV;simp;omega];have q1:(op==4)=false:=by simp;omega
  have q2:(op==16)=false:=by simp;omega
  have q3:(op==17)=false:=by simp;omega
  go_enter Tryz.func101,Tryz.ntmps101;go_wp2_with (fail);go_ret;exact⟨rfl,rfl⟩
 ·rw[show aV op=true by unfold aV;simp;omega];have q1:(op==4)=false:=by simp;omega
  have q2:(op==16)=true:=by simp;omega
  have q3:(op==17)=false:=by simp;omega
  go_enter Tryz.func101,Tryz.ntmps101;go_wp2_with (fail);go_ret;exact⟨rfl,rfl⟩
 ·rw[show aV op=true by unfold aV;simp;omega];have q1:(op==4)=false:=by simp;omega
  have q2:(op==16)=false:=by simp;omega
  have q3:(op==17)=true:=by simp;omega
  go_enter Tryz.func101,Tryz.ntmps101;go_wp2_with (fail);go_ret;exact⟨rfl,rfl⟩
 ·rw[show aV op=false by unfold aV;simp;omega];have q1:(op==4)=false:=by simp;omega
  have q2:(op==16)=false:=by simp;omega
  have q3:(op==17)=false:=by simp;omega
  go_enter Tryz.func101,Tryz.ntmps101;go_wp2_with (fail);go_ret;exact⟨rfl,rfl⟩
theorem cd (op:Int)(h0:0≤op)(h1:op≤255)(w:World):Calls Tryz.prog 122 #[.int .u8 op] w fun e w'=>e=.returned (.int .i64 (bc op))∧w=w':=by
 have hc:(0≤op∧op≤0)∨(1≤op∧op≤1)∨(2≤op∧op≤2)∨(3≤op∧op≤3)∨(4≤op∧op≤4)∨(5≤op∧op≤9)∨(10≤op∧op≤15)∨(16≤op∧op≤16)∨(17≤op∧op≤17)∨(18≤op∧op≤18)∨(19≤op∧op≤19)∨(20≤op∧op≤20)∨(21≤op∧op≤21)∨(22≤op∧op≤26)∨(27≤op∧op≤27)∨(28≤op∧op≤28)∨(29≤op∧op≤255):=by omega
 rcases hc with ⟨a0,a1⟩|⟨a0,a1⟩|⟨a0,a1⟩|⟨a0,a1⟩|⟨a0,a1⟩|⟨a0,a1⟩|⟨a0,a1⟩|⟨a0,a1⟩|⟨a0,a1⟩|⟨a0,a1⟩|⟨a0,a1⟩|⟨a0,a1⟩|⟨a0,a1⟩|⟨a0,a1⟩|⟨a0,a1⟩|⟨a0,a1⟩|⟨a0,a1⟩
 ·rw[show bc op=0 by unfold bc;repeat (first | rfl | omega | split)];have q1:(op==21)=false:=by simp;omega
  have q2:(op==27)=false:=by simp;omega
  have q3:(op==28)=false:=by simp;omega
  have qa:isAgg op=false:=by unfold isAgg;simp;omega
  go_enter Tryz.func122,Tryz.ntmps122;go_wp2_with (go_at_call 59;refine(bM op h0 h1 _).mono ?_;rintro e w' ⟨rfl,rfl⟩);go_ret;exact⟨rfl,rfl⟩
 ·rw[show bc op=0 by unfold bc;repeat (first | rfl | omega | split)];have q1:(op==21)=false:=by simp;omega
  have q2:(op==27)=false:=by simp;omega
  have q3:(op==28)=false:=by simp;omega
  have qa:isAgg op=false:=by unfold isAgg;simp;omega
  go_enter Tryz.func122,Tryz.ntmps122;go_wp2_with (go_at_call 59;refine(bM op h0 h1 _).mono ?_;rintro e w' ⟨rfl,rfl⟩);go_ret;exact⟨rfl,rfl⟩
 ·rw[show bc op=0 by unfold bc;repeat (first | rfl | omega | split)];have q1:(op==21)=false:=by simp;omega
  have q2:(op==27)=false:=by simp;omega
  have q3:(op==28)=false:=by simp;omega
  have qa:isAgg op=false:=by unfold isAgg;simp;omega
  go_enter Tryz.func122,Tryz.ntmps122;go_wp2_with (go_at_call 59;refine(bM op h0 h1 _).mono ?_;rintro e w' ⟨rfl,rfl⟩);go_ret;exact⟨rfl,rfl⟩
 ·rw[show bc op=0 by unfold bc;repeat (first | rfl | omega | split)];have q1:(op==21)=false:=by simp;omega
  have q2:(op==27)=false:=by simp;omega
  have q3:(op==28)=false:=by simp;omega
  have qa:isAgg op=false:=by unfold isAgg;simp;omega
  go_enter Tryz.func122,Tryz.ntmps122;go_wp2_with (go_at_call 59;refine(bM op h0 h1 _).mono ?_;rintro e w' ⟨rfl,rfl⟩);go_ret;exact⟨rfl,rfl⟩
 ·rw[show bc op=0 by unfold bc;repeat (first | rfl | omega | split)];have q1:(op==21)=false:=by simp;omega
  have q2:(op==27)=false:=by simp;omega
  have q3:(op==28)=false:=by simp;omega
  have qa:isAgg op=false:=by unfold isAgg;simp;omega
  go_enter Tryz.func122,Tryz.ntmps122;go_wp2_with (go_at_call 59;refine(bM op h0 h1 _).mono ?_;rintro e w' ⟨rfl,rfl⟩);go_ret;exact⟨rfl,rfl⟩
 ·rw[show bc op=0 by unfold bc;repeat (first | rfl | omega | split)];have q1:(op==21)=false:=by simp;omega
  have q2:(op==27)=false:=by simp;omega
  have q3:(op==28)=false:=by simp;omega
  have qa:isAgg op=false:=by unfold isAgg;simp;omega
  go_enter Tryz.func122,Tryz.ntmps122;go_wp2_with (go_at_call 59;refine(bM op h0 h1 _).mono ?_;rintro e w' ⟨rfl,rfl⟩);go_ret;exact⟨rfl,rfl⟩
 ·rw[show bc op=0 by unfold bc;repeat (first | rfl | omega | split)];have q1:(op==21)=false:=by simp;omega
  have q2:(op==27)=false:=by simp;omega
  have q3:(op==28)=false:=by simp;omega
  have qa:isAgg op=false:=by unfold isAgg;simp;omega
  go_enter Tryz.func122,Tryz.ntmps122;go_wp2_with (go_at_call 59;refine(bM op h0 h1 _).mono ?_;rintro e w' ⟨rfl,rfl⟩);go_ret;exact⟨rfl,rfl⟩
 ·rw[show bc op=0 by unfold bc;repeat (first | rfl | omega | split)];have q1:(op==21)=false:=by simp;omega
  have q2:(op==27)=false:=by simp;omega
  have q3:(op==28)=false:=by simp;omega
  have qa:isAgg op=false:=by unfold isAgg;simp;omega
  go_enter Tryz.func122,Tryz.ntmps122;go_wp2_with (go_at_call 59;refine(bM op h0 h1 _).mono ?_;rintro e w' ⟨rfl,rfl⟩);go_ret;exact⟨rfl,rfl⟩
 ·rw[show bc op=0 by unfold bc;repeat (first | rfl | omega | split)];have q1:(op==21)=false:=by simp;omega
  have q2:(op==27)=false:=by simp;omega
  have q3:(op==28)=false:=by simp;omega
  have qa:isAgg op=false:=by unfold isAgg;simp;omega
  go_enter Tryz.func122,Tryz.ntmps122;go_wp2_with (go_at_call 59;refine(bM op h0 h1 _).mono ?_;rintro e w' ⟨rfl,rfl⟩);go_ret;exact⟨rfl,rfl⟩
 ·rw[show bc op=0 by unfold bc;repeat (first | rfl | omega | split)];have q1:(op==21)=false:=by simp;omega
  have q2:(op==27)=false:=by simp;omega
  have q3:(op==28)=false:=by simp;omega
  have qa:isAgg op=false:=by unfold isAgg;simp;omega
  go_enter Tryz.func122,Tryz.ntmps122;go_wp2_with (go_at_call 59;refine(bM op h0 h1 _).mono ?_;rintro e w' ⟨rfl,rfl⟩);go_ret;exact⟨rfl,rfl⟩
 ·rw[show bc op=0 by unfold bc;repeat (first | rfl | omega | split)];have q1:(op==21)=false:=by simp;omega
  have q2:(op==27)=false:=by simp;omega
  have q3:(op==28)=false:=by simp;omega
  have qa:isAgg op=false:=by unfold isAgg;simp;omega
  go_enter Tryz.func122,Tryz.ntmps122;go_wp2_with (go_at_call 59;refine(bM op h0 h1 _).mono ?_;rintro e w' ⟨rfl,rfl⟩);go_ret;exact⟨rfl,rfl⟩
 ·rw[show bc op=0 by unfold bc;repeat (first | rfl | omega | split)];have q1:(op==21)=false:=by simp;omega
  have q2:(op==27)=false:=by simp;omega
  have q3:(op==28)=false:=by simp;omega
  have qa:isAgg op=false:=by unfold isAgg;simp;omega
  go_enter Tryz.func122,Tryz.ntmps122;go_wp2_with (go_at_call 59;refine(bM op h0 h1 _).mono ?_;rintro e w' ⟨rfl,rfl⟩);go_ret;exact⟨rfl,rfl⟩
 ·rw[show bc op=0 by unfold bc;repeat (first | rfl | omega | split)];have q1:(op==21)=true:=by simp;omega
  have q2:(op==27)=false:=by simp;omega
  have q3:(op==28)=false:=by simp;omega
  have qa:isAgg op=true:=by unfold isAgg;simp;omega
  go_enter Tryz.func122,Tryz.ntmps122;go_wp2_with (go_at_call 59;refine(bM op h0 h1 _).mono ?_;rintro e w' ⟨rfl,rfl⟩);go_ret;exact⟨rfl,rfl⟩
 ·rw[show bc op=1 by unfold bc;repeat (first | rfl | omega | split)];have q1:(op==21)=false:=by simp;omega
  have q2:(op==27)=false:=by simp;omega
  have q3:(op==28)=false:=by simp;omega
  have qa:isAgg op=true:=by unfold isAgg;simp;omega
  go_enter Tryz.func122,Tryz.ntmps122;go_wp2_with (go_at_call 59;refine(bM op h0 h1 _).mono ?_;rintro e w' ⟨rfl,rfl⟩);go_ret;exact⟨rfl,rfl⟩
 ·rw[show bc op=2 by unfold bc;repeat (first | rfl | omega | split)];have q1:(op==21)=false:=by simp;omega
  have q2:(op==27)=true:=by simp;omega
  have q3:(op==28)=false:=by simp;omega
  have qa:isAgg op=true:=by unfold isAgg;simp;omega
  go_enter Tryz.func122,Tryz.ntmps122;go_wp2_with (go_at_call 59;refine(bM op h0 h1 _).mono ?_;rintro e w' ⟨rfl,rfl⟩);go_ret;exact⟨rfl,rfl⟩
 ·rw[show bc op=2 by unfold bc;repeat (first | rfl | omega | split)];have q1:(op==21)=false:=by simp;omega
  have q2:(op==27)=false:=by simp;omega
  have q3:(op==28)=true:=by simp;omega
  have qa:isAgg op=true:=by unfold isAgg;simp;omega
  go_enter Tryz.func122,Tryz.ntmps122;go_wp2_with (go_at_call 59;refine(bM op h0 h1 _).mono ?_;rintro e w' ⟨rfl,rfl⟩);go_ret;exact⟨rfl,rfl⟩
 ·rw[show bc op=0 by unfold bc;repeat (first | rfl | omega | split)];have q1:(op==21)=false:=by simp;omega
  have q2:(op==27)=false:=by simp;omega
  have q3:(op==28)=false:=by simp;omega
  have qa:isAgg op=false:=by unfold isAgg;simp;omega
  go_enter Tryz.func122,Tryz.ntmps122;go_wp2_with (go_at_call 59;refine(bM op h0 h1 _).mono ?_;rintro e w' ⟨rfl,rfl⟩);go_ret;exact⟨rfl,rfl⟩
theorem FT (op:Int)(h0:0≤op)(h1:op≤255)(w:World):Calls Tryz.prog 98 #[.int .u8 op] w fun e w'=>e=.returned (.int .i64 (cE op))∧w=w':=by
 have hc:(0≤op∧op≤0)∨(1≤op∧op≤1)∨(2≤op∧op≤2)∨(3≤op∧op≤3)∨(4≤op∧op≤4)∨(5≤op∧op≤9)∨(10≤op∧op≤15)∨(16≤op∧op≤16)∨(17≤op∧op≤17)∨(18≤op∧op≤18)∨(19≤op∧op≤19)∨(20≤op∧op≤20)∨(21≤op∧op≤21)∨(22≤op∧op≤26)∨(27≤op∧op≤27)∨(28≤op∧op≤28)∨(29≤op∧op≤255):=by omega
 rcases hc with ⟨a0,a1⟩|⟨a0,a1⟩|⟨a0,a1⟩|⟨a0,a1⟩|⟨a0,a1⟩|⟨a0,a1⟩|⟨a0,a1⟩|⟨a0,a1⟩|⟨a0,a1⟩|⟨a0,a1⟩|⟨a0,a1⟩|⟨a0,a1⟩|⟨a0,a1⟩|⟨a0,a1⟩|⟨a0,a1⟩|⟨a0,a1⟩|⟨a0,a1⟩
 ·rw[show cE op= -1 by unfold cE;repeat (first | rfl | omega | split)];have q1:(op==1)=false:=by simp;omega
  have q2:(op==2)=false:=by simp;omega
  have q3:(op==3)=false:=by simp;omega
  have q4:(op==4)=false:=by simp;omega
  have q5:(op==18)=false:=by simp;omega
  have q6:(op==19)=false:=by simp;omega
  have q7:(op==20)=false:=by simp;omega
  have q8:decide (5≤op)=false:=decide_eq_false (by omega);have q9:decide (op≤17)=true:=decide_eq_true (by omega);have qa:isAgg op=false:=by unfold isAgg;simp;omega
  go_enter Tryz.func98,Tryz.ntmps98;go_wp2_with (first |(go_at_call 59;refine(bM op h0 h1 _).mono ?_;rintro e w' ⟨rfl,rfl⟩)|(go_at_call 122;refine(cd op h0 h1 _).mono ?_;rintro e w' ⟨rfl,rfl⟩));go_ret;exact⟨rfl,rfl⟩
 ·rw[show cE op=0 by unfold cE;repeat (first | rfl | omega | split)];have q1:(op==1)=true:=by simp;omega
  have q2:(op==2)=false:=by simp;omega
  have q3:(op==3)=false:=by simp;omega
  have q4:(op==4)=false:=by simp;omega
  have q5:(op==18)=false:=by simp;omega
  have q6:(op==19)=false:=by simp;omega
  have q7:(op==20)=false:=by simp;omega
  have q8:decide (5≤op)=false:=decide_eq_false (by omega);have q9:decide (op≤17)=true:=decide_eq_true (by omega);have qa:isAgg op=false:=by unfold isAgg;simp;omega
  go_enter Tryz.func98,Tryz.ntmps98;go_wp2_with (first |(go_at_call 59;refine(bM op h0 h1 _).mono ?_;rintro e w' ⟨rfl,rfl⟩)|(go_at_call 122;refine(cd op h0 h1 _).mono ?_;rintro e w' ⟨rfl,rfl⟩));go_ret;exact⟨rfl,rfl⟩
 ·rw[show cE op=0 by unfold cE;repeat (first | rfl | omega | split)];have q1:(op==1)=false:=by simp;omega
  have q2:(op==2)=true:=by simp;omega
  have q3:(op==3)=false:=by simp;omega
  have q4:(op==4)=false:=by simp;omega
  have q5:(op==18)=false:=by simp;omega
  have q6:(op==19)=false:=by simp;omega
  have q7:(op==20)=false:=by simp;omega
  have q8:decide (5≤op)=false:=decide_eq_false (by omega);have q9:decide (op≤17)=true:=decide_eq_true (by omega);have qa:isAgg op=false:=by unfold isAgg;simp;omega
  go_enter Tryz.func98,Tryz.ntmps98;go_wp2_with (first |(go_at_call 59;refine(bM op h0 h1 _).mono ?_;rintro e w' ⟨rfl,rfl⟩)|(go_at_call 122;refine(cd op h0 h1 _).mono ?_;rintro e w' ⟨rfl,rfl⟩));go_ret;exact⟨rfl,rfl⟩
 ·rw[show cE op=1 by unfold cE;repeat (first | rfl | omega | split)];have q1:(op==1)=false:=by simp;omega
  have q2:(op==2)=false:=by simp;omega
  have q3:(op==3)=true:=by simp;omega
  have q4:(op==4)=false:=by simp;omega
  have q5:(op==18)=false:=by simp;omega
  have q6:(op==19)=false:=by simp;omega
  have q7:(op==20)=false:=by simp;omega
  have q8:decide (5≤op)=false:=decide_eq_false (by omega);have q9:decide (op≤17)=true:=decide_eq_true (by omega);have qa:isAgg op=false:=by unfold isAgg;simp;omega
  go_enter Tryz.func98,Tryz.ntmps98;go_wp2_with (first |(go_at_call 59;refine(bM op h0 h1 _).mono ?_;rintro e w' ⟨rfl,rfl⟩)|(go_at_call 122;refine(cd op h0 h1 _).mono ?_;rintro e w' ⟨rfl,rfl⟩));go_ret;exact⟨rfl,rfl⟩
 ·rw[show cE op=1 by unfold cE;repeat (first | rfl | omega | split)];have q1:(op==1)=false:=by simp;omega
  have q2:(op==2)=false:=by simp;omega
  have q3:(op==3)=false:=by simp;omega
  have q4:(op==4)=true:=by simp;omega
  have q5:(op==18)=false:=by simp;omega
  have q6:(op==19)=false:=by simp;omega
  have q7:(op==20)=false:=by simp;omega
  have q8:decide (5≤op)=false:=decide_eq_false (by omega);have q9:decide (op≤17)=true:=decide_eq_true (by omega);have qa:isAgg op=false:=by unfold isAgg;simp;omega
  go_enter Tryz.func98,Tryz.ntmps98;go_wp2_with (first |(go_at_call 59;refine(bM op h0 h1 _).mono ?_;rintro e w' ⟨rfl,rfl⟩)|(go_at_call 122;refine(cd op h0 h1 _).mono ?_;rintro e w' ⟨rfl,rfl⟩));go_ret;exact⟨rfl,rfl⟩
 ·rw[show cE op=2 by unfold cE;repeat (first | rfl | omega | split)];have q1:(op==1)=false:=by simp;omega
  have q2:(op==2)=false:=by simp;omega
  have q3:(op==3)=false:=by simp;omega
  have q4:(op==4)=false:=by simp;omega
  have q5:(op==18)=false:=by simp;omega
  have q6:(op==19)=false:=by simp;omega
  have q7:(op==20)=false:=by simp;omega
  have q8:decide (5≤op)=true:=decide_eq_true (by omega);have q9:decide (op≤17)=true:=decide_eq_true (by omega);have qa:isAgg op=false:=by unfold isAgg;simp;omega
  go_enter Tryz.func98,Tryz.ntmps98;go_wp2_with (first |(go_at_call 59;refine(bM op h0 h1 _).mono ?_;rintro e w' ⟨rfl,rfl⟩)|(go_at_call 122;refine(cd op h0 h1 _).mono ?_;rintro e w' ⟨rfl,rfl⟩));go_ret;exact⟨rfl,rfl⟩
 ·rw[show cE op=2 by unfold cE;repeat (first | rfl | omega | split)];have q1:(op==1)=false:=by simp;omega
  have q2:(op==2)=false:=by simp;omega
  have q3:(op==3)=false:=by simp;omega
  have q4:(op==4)=false:=by simp;omega
  have q5:(op==18)=false:=by simp;omega
  have q6:(op==19)=false:=by simp;omega
  have q7:(op==20)=false:=by simp;omega
  have q8:decide (5≤op)=true:=decide_eq_true (by omega);have q9:decide (op≤17)=true:=decide_eq_true (by omega);have qa:isAgg op=false:=by unfold isAgg;simp;omega
  go_enter Tryz.func98,Tryz.ntmps98;go_wp2_with (first |(go_at_call 59;refine(bM op h0 h1 _).mono ?_;rintro e w' ⟨rfl,rfl⟩)|(go_at_call 122;refine(cd op h0 h1 _).mono ?_;rintro e w' ⟨rfl,rfl⟩));go_ret;exact⟨rfl,rfl⟩
 ·rw[show cE op=2 by unfold cE;repeat (first | rfl | omega | split)];have q1:(op==1)=false:=by simp;omega
  have q2:(op==2)=false:=by simp;omega
  have q3:(op==3)=false:=by simp;omega
  have q4:(op==4)=false:=by simp;omega
  have q5:(op==18)=false:=by simp;omega
  have q6:(op==19)=false:=by simp;omega
  have q7:(op==20)=false:=by simp;omega
  have q8:decide (5≤op)=true:=decide_eq_true (by omega);have q9:decide (op≤17)=true:=decide_eq_true (by omega);have qa:isAgg op=false:=by unfold isAgg;simp;omega
  go_enter Tryz.func98,Tryz.ntmps98;go_wp2_with (first |(go_at_call 59;refine(bM op h0 h1 _).mono ?_;rintro e w' ⟨rfl,rfl⟩)|(go_at_call 122;refine(cd op h0 h1 _).mono ?_;rintro e w' ⟨rfl,rfl⟩));go_ret;exact⟨rfl,rfl⟩
 ·rw[show cE op=2 by unfold cE;repeat (first | rfl | omega | split)];have q1:(op==1)=false:=by simp;omega
  have q2:(op==2)=false:=by simp;omega
  have q3:(op==3)=false:=by simp;omega
  have q4:(op==4)=false:=by simp;omega
  have q5:(op==18)=false:=by simp;omega
  have q6:(op==19)=false:=by simp;omega
  have q7:(op==20)=false:=by simp;omega
  have q8:decide (5≤op)=true:=decide_eq_true (by omega);have q9:decide (op≤17)=true:=decide_eq_true (by omega);have qa:isAgg op=false:=by unfold isAgg;simp;omega
  go_enter Tryz.func98,Tryz.ntmps98;go_wp2_with (first |(go_at_call 59;refine(bM op h0 h1 _).mono ?_;rintro e w' ⟨rfl,rfl⟩)|(go_at_call 122;refine(cd op h0 h1 _).mono ?_;rintro e w' ⟨rfl,rfl⟩));go_ret;exact⟨rfl,rfl⟩
 ·rw[show cE op=1 by unfold cE;repeat (first | rfl | omega | split)];have q1:(op==1)=false:=by simp;omega
  have q2:(op==2)=false:=by simp;omega
  have q3:(op==3)=false:=by simp;omega
  have q4:(op==4)=false:=by simp;omega
  have q5:(op==18)=true:=by simp;omega
  have q6:(op==19)=false:=by simp;omega
  have q7:(op==20)=false:=by simp;omega
  have q8:decide (5≤op)=true:=decide_eq_true (by omega);have q9:decide (op≤17)=false:=decide_eq_false (by omega);have qa:isAgg op=false:=by unfold isAgg;simp;omega
  go_enter Tryz.func98,Tryz.ntmps98;go_wp2_with (first |(go_at_call 59;refine(bM op h0 h1 _).mono ?_;rintro e w' ⟨rfl,rfl⟩)|(go_at_call 122;refine(cd op h0 h1 _).mono ?_;rintro e w' ⟨rfl,rfl⟩));go_ret;exact⟨rfl,rfl⟩
 ·rw[show cE op=1 by unfold cE;repeat (first | rfl | omega | split)];have q1:(op==1)=false:=by simp;omega
  have q2:(op==2)=false:=by simp;omega
  have q3:(op==3)=false:=by simp;omega
  have q4:(op==4)=false:=by simp;omega
  have q5:(op==18)=false:=by simp;omega
  have q6:(op==19)=true:=by simp;omega
  have q7:(op==20)=false:=by simp;omega
  have q8:decide (5≤op)=true:=decide_eq_true (by omega);have q9:decide (op≤17)=false:=decide_eq_false (by omega);have qa:isAgg op=false:=by unfold isAgg;simp;omega
  go_enter Tryz.func98,Tryz.ntmps98;go_wp2_with (first |(go_at_call 59;refine(bM op h0 h1 _).mono ?_;rintro e w' ⟨rfl,rfl⟩)|(go_at_call 122;refine(cd op h0 h1 _).mono ?_;rintro e w' ⟨rfl,rfl⟩));go_ret;exact⟨rfl,rfl⟩
 ·rw[show cE op=1 by unfold cE;repeat (first | rfl | omega | split)];have q1:(op==1)=false:=by simp;omega
  have q2:(op==2)=false:=by simp;omega
  have q3:(op==3)=false:=by simp;omega
  have q4:(op==4)=false:=by simp;omega
  have q5:(op==18)=false:=by simp;omega
  have q6:(op==19)=false:=by simp;omega
  have q7:(op==20)=true:=by simp;omega
  have q8:decide (5≤op)=true:=decide_eq_true (by omega);have q9:decide (op≤17)=false:=decide_eq_false (by omega);have qa:isAgg op=false:=by unfold isAgg;simp;omega
  go_enter Tryz.func98,Tryz.ntmps98;go_wp2_with (first |(go_at_call 59;refine(bM op h0 h1 _).mono ?_;rintro e w' ⟨rfl,rfl⟩)|(go_at_call 122;refine(cd op h0 h1 _).mono ?_;rintro e w' ⟨rfl,rfl⟩));go_ret;exact⟨rfl,rfl⟩
 ·rw[show cE op=0 by unfold cE;repeat (first | rfl | omega | split)];have q1:(op==1)=false:=by simp;omega
  have q2:(op==2)=false:=by simp;omega
  have q3:(op==3)=false:=by simp;omega
  have q4:(op==4)=false:=by simp;omega
  have q5:(op==18)=false:=by simp;omega
  have q6:(op==19)=false:=by simp;omega
  have q7:(op==20)=false:=by simp;omega
  have q8:decide (5≤op)=true:=decide_eq_true (by omega);have q9:decide (op≤17)=false:=decide_eq_false (by omega);have qa:isAgg op=true:=by unfold isAgg;simp;omega
  have qb:bc op=0:=by unfold bc;repeat (first | rfl | omega | split)
  go_enter Tryz.func98,Tryz.ntmps98;go_wp2_with (first |(go_at_call 59;refine(bM op h0 h1 _).mono ?_;rintro e w' ⟨rfl,rfl⟩)|(go_at_call 122;refine(cd op h0 h1 _).mono ?_;rintro e w' ⟨rfl,rfl⟩));go_ret;exact⟨rfl,rfl⟩
 ·rw[show cE op=1 by unfold cE;repeat (first | rfl | omega | split)];have q1:(op==1)=false:=by simp;omega
  have q2:(op==2)=false:=by simp;omega
  have q3:(op==3)=false:=by simp;omega
  have q4:(op==4)=false:=by simp;omega
  have q5:(op==18)=false:=by simp;omega
  have q6:(op==19)=false:=by simp;omega
  have q7:(op==20)=false:=by simp;omega
  have q8:decide (5≤op)=true:=decide_eq_true (by omega);have q9:decide (op≤17)=false:=decide_eq_false (by omega);have qa:isAgg op=true:=by unfold isAgg;simp;omega
  have qb:bc op=1:=by unfold bc;repeat (first | rfl | omega | split)
  go_enter Tryz.func98,Tryz.ntmps98;go_wp2_with (first |(go_at_call 59;refine(bM op h0 h1 _).mono ?_;rintro e w' ⟨rfl,rfl⟩)|(go_at_call 122;refine(cd op h0 h1 _).mono ?_;rintro e w' ⟨rfl,rfl⟩));go_ret;exact⟨rfl,rfl⟩
 ·rw[show cE op=2 by unfold cE;repeat (first | rfl | omega | split)];have q1:(op==1)=false:=by simp;omega
  have q2:(op==2)=false:=by simp;omega
  have q3:(op==3)=false:=by simp;omega
  have q4:(op==4)=false:=by simp;omega
  have q5:(op==18)=false:=by simp;omega
  have q6:(op==19)=false:=by simp;omega
  have q7:(op==20)=false:=by simp;omega
  have q8:decide (5≤op)=true:=decide_eq_true (by omega);have q9:decide (op≤17)=false:=decide_eq_false (by omega);have qa:isAgg op=true:=by unfold isAgg;simp;omega
  have qb:bc op=2:=by unfold bc;repeat (first | rfl | omega | split)
  go_enter Tryz.func98,Tryz.ntmps98;go_wp2_with (first |(go_at_call 59;refine(bM op h0 h1 _).mono ?_;rintro e w' ⟨rfl,rfl⟩)|(go_at_call 122;refine(cd op h0 h1 _).mono ?_;rintro e w' ⟨rfl,rfl⟩));go_ret;exact⟨rfl,rfl⟩
 ·rw[show cE op=2 by unfold cE;repeat (first | rfl | omega | split)];have q1:(op==1)=false:=by simp;omega
  have q2:(op==2)=false:=by simp;omega
  have q3:(op==3)=false:=by simp;omega
  have q4:(op==4)=false:=by simp;omega
  have q5:(op==18)=false:=by simp;omega
  have q6:(op==19)=false:=by simp;omega
  have q7:(op==20)=false:=by simp;omega
  have q8:decide (5≤op)=true:=decide_eq_true (by omega);have q9:decide (op≤17)=false:=decide_eq_false (by omega);have qa:isAgg op=true:=by unfold isAgg;simp;omega
  have qb:bc op=2:=by unfold bc;repeat (first | rfl | omega | split)
  go_enter Tryz.func98,Tryz.ntmps98;go_wp2_with (first |(go_at_call 59;refine(bM op h0 h1 _).mono ?_;rintro e w' ⟨rfl,rfl⟩)|(go_at_call 122;refine(cd op h0 h1 _).mono ?_;rintro e w' ⟨rfl,rfl⟩));go_ret;exact⟨rfl,rfl⟩
 ·rw[show cE op= -1 by unfold cE;repeat (first | rfl | omega | split)];have q1:(op==1)=false:=by simp;omega
  have q2:(op==2)=false:=by simp;omega
  have q3:(op==3)=false:=by simp;omega
  have q4:(op==4)=false:=by simp;omega
  have q5:(op==18)=false:=by simp;omega
  have q6:(op==19)=false:=by simp;omega
  have q7:(op==20)=false:=by simp;omega
  have q8:decide (5≤op)=true:=decide_eq_true (by omega);have q9:decide (op≤17)=false:=decide_eq_false (by omega);have qa:isAgg op=false:=by unfold isAgg;simp;omega
  go_enter Tryz.func98,Tryz.ntmps98;go_wp2_with (first |(go_at_call 59;refine(bM op h0 h1 _).mono ?_;rintro e w' ⟨rfl,rfl⟩)|(go_at_call 122;refine(cd op h0 h1 _).mono ?_;rintro e w' ⟨rfl,rfl⟩));go_ret;exact⟨rfl,rfl⟩
theorem CG (op:Int)(h0:0≤op)(h1:op≤255)(w:World):Calls Tryz.prog 58 #[.int .u8 op] w fun e w'=>e=.returned (.int .u8 (bV op))∧w=w':=by
 have hc:(0≤op∧op≤0)∨(1≤op∧op≤1)∨(2≤op∧op≤2)∨(3≤op∧op≤3)∨(4≤op∧op≤4)∨(5≤op∧op≤9)∨(10≤op∧op≤15)∨(16≤op∧op≤16)∨(17≤op∧op≤17)∨(18≤op∧op≤18)∨(19≤op∧op≤19)∨(20≤op∧op≤20)∨(21≤op∧op≤21)∨(22≤op∧op≤26)∨(27≤op∧op≤27)∨(28≤op∧op≤28)∨(29≤op∧op≤255):=by omega
 rcases hc with ⟨a0,a1⟩|⟨a0,a1⟩|⟨a0,a1⟩|⟨a0,a1⟩|⟨a0,a1⟩|⟨a0,a1⟩|⟨a0,a1⟩|⟨a0,a1⟩|⟨a0,a1⟩|⟨a0,a1⟩|⟨a0,a1⟩|⟨a0,a1⟩|⟨a0,a1⟩|⟨a0,a1⟩|⟨a0,a1⟩|⟨a0,a1⟩|⟨a0,a1⟩
 ·rw[show bV op=0 by unfold bV;repeat (first | rfl | omega | split)];have q1:(op==3)=false:=by simp;omega
  have q2:(op==20)=false:=by simp;omega
  have q3:decide (5≤op)=false:=decide_eq_false (by omega);have q4:decide (op≤9)=true:=decide_eq_true (by omega);have qa:aV op=false:=by unfold aV;simp;omega
  go_enter Tryz.func58,Tryz.ntmps58;go_wp2_with (go_at_call 101;refine(cx op h0 h1 _).mono ?_;rintro e w' ⟨rfl,rfl⟩);go_ret;exact⟨rfl,rfl⟩
 ·rw[show bV op=0 by unfold bV;repeat (first | rfl | omega | split)];have q1:(op==3)=false:=by simp;omega
  have q2:(op==20)=false:=by simp;omega
  have q3:decide (5≤op)=false:=decide_eq_false (by omega);have q4:decide (op≤9)=true:=decide_eq_true (by omega);have qa:aV op=false:=by unfold aV;simp;omega
  go_enter Tryz.func58,Tryz.ntmps58;go_wp2_with (go_at_call 101;refine(cx op h0 h1 _).mono ?_;rintro e w' ⟨rfl,rfl⟩);go_ret;exact⟨rfl,rfl⟩
 ·rw[show bV op=0 by unfold bV;repeat (first | rfl | omega | split)];have q1:(op==3)=false:=by simp;omega
  have q2:(op==20)=false:=by simp;omega
  have q3:decide (5≤op)=false:=decide_eq_false (by omega);have q4:decide (op≤9)=true:=decide_eq_true (by omega);have qa:aV op=false:=by unfold aV;simp;omega
  go_enter Tryz.func58,Tryz.ntmps58;go_wp2_with (go_at_call 101;refine(cx op h0 h1 _).mono ?_;rintro e w' ⟨rfl,rfl⟩);go_ret;exact⟨rfl,rfl⟩
 ·rw[show bV op=2 by unfold bV;repeat (first | rfl | omega | split)];have q1:(op==3)=true:=by simp;omega
  have q2:(op==20)=false:=by simp;omega
  have q3:decide (5≤op)=false:=decide_eq_false (by omega);have q4:decide (op≤9)=true:=decide_eq_true (by omega);have qa:aV op=false:=by unfold aV;simp;omega
  go_enter Tryz.func58,Tryz.ntmps58;go_wp2_with (go_at_call 101;refine(cx op h0 h1 _).mono ?_;rintro e w' ⟨rfl,rfl⟩);go_ret;exact⟨rfl,rfl⟩
 ·rw[show bV op=1 by unfold bV;repeat (first | rfl | omega | split)];have q1:(op==3)=false:=by simp;omega
  have q2:(op==20)=false:=by simp;omega
  have q3:decide (5≤op)=false:=decide_eq_false (by omega);have q4:decide (op≤9)=true:=decide_eq_true (by omega);have qa:aV op=true:=by unfold aV;simp;omega
  go_enter Tryz.func58,Tryz.ntmps58;go_wp2_with (go_at_call 101;refine(cx op h0 h1 _).mono ?_;rintro e w' ⟨rfl,rfl⟩);go_ret;exact⟨rfl,rfl⟩
 ·rw[show bV op=2 by unfold bV;repeat (first | rfl | omega | split)];have q1:(op==3)=false:=by simp;omega
  have q2:(op==20)=false:=by simp;omega
  have q3:decide (5≤op)=true:=decide_eq_true (by omega);have q4:decide (op≤9)=true:=decide_eq_true (by omega);have qa:aV op=false:=by unfold aV;simp;omega
  go_enter Tryz.func58,Tryz.ntmps58;go_wp2_with (go_at_call 101;refine(cx op h0 h1 _).mono ?_;rintro e w' ⟨rfl,rfl⟩);go_ret;exact⟨rfl,rfl⟩
 ·rw[show bV op=0 by unfold bV;repeat (first | rfl | omega | split)];have q1:(op==3)=false:=by simp;omega
  have q2:(op==20)=false:=by simp;omega
  have q3:decide (5≤op)=true:=decide_eq_true (by omega);have q4:decide (op≤9)=false:=decide_eq_false (by omega);have qa:aV op=false:=by unfold aV;simp;omega
  go_enter Tryz.func58,Tryz.ntmps58;go_wp2_with (go_at_call 101;refine(cx op h0 h1 _).mono ?_;rintro e w' ⟨rfl,rfl⟩);go_ret;exact⟨rfl,rfl⟩
 ·rw[show bV op=1 by unfold bV;repeat (first | rfl | omega | split)];have q1:(op==3)=false:=by simp;omega
  have q2:(op==20)=false:=by simp;omega
  have q3:decide (5≤op)=true:=decide_eq_true (by omega);have q4:decide (op≤9)=false:=decide_eq_false (by omega);have qa:aV op=true:=by unfold aV;simp;omega
  go_enter Tryz.func58,Tryz.ntmps58;go_wp2_with (go_at_call 101;refine(cx op h0 h1 _).mono ?_;rintro e w' ⟨rfl,rfl⟩);go_ret;exact⟨rfl,rfl⟩
 ·rw[show bV op=1 by unfold bV;repeat (first | rfl | omega | split)];have q1:(op==3)=false:=by simp;omega
  have q2:(op==20)=false:=by simp;omega
  have q3:decide (5≤op)=true:=decide_eq_true (by omega);have q4:decide (op≤9)=false:=decide_eq_false (by omega);have qa:aV op=true:=by unfold aV;simp;omega
  go_enter Tryz.func58,Tryz.ntmps58;go_wp2_with (go_at_call 101;refine(cx op h0 h1 _).mono ?_;rintro e w' ⟨rfl,rfl⟩);go_ret;exact⟨rfl,rfl⟩
 ·rw[show bV op=0 by unfold bV;repeat (first | rfl | omega | split)];have q1:(op==3)=false:=by simp;omega
  have q2:(op==20)=false:=by simp;omega
  have q3:decide (5≤op)=true:=decide_eq_true (by omega);have q4:decide (op≤9)=false:=decide_eq_false (by omega);have qa:aV op=false:=by unfold aV;simp;omega
  go_enter Tryz.func58,Tryz.ntmps58;go_wp2_with (go_at_call 101;refine(cx op h0 h1 _).mono ?_;rintro e w' ⟨rfl,rfl⟩);go_ret;exact⟨rfl,rfl⟩
 ·rw[show bV op=0 by unfold bV;repeat (first | rfl | omega | split)];have q1:(op==3)=false:=by simp;omega
  have q2:(op==20)=false:=by simp;omega
  have q3:decide (5≤op)=true:=decide_eq_true (by omega);have q4:decide (op≤9)=false:=decide_eq_false (by omega);have qa:aV op=false:=by unfold aV;simp;omega
  go_enter Tryz.func58,Tryz.ntmps58;go_wp2_with (go_at_call 101;refine(cx op h0 h1 _).mono ?_;rintro e w' ⟨rfl,rfl⟩);go_ret;exact⟨rfl,rfl⟩
 ·rw[show bV op=2 by unfold bV;repeat (first | rfl | omega | split)];have q1:(op==3)=false:=by simp;omega
  have q2:(op==20)=true:=by simp;omega
  have q3:decide (5≤op)=true:=decide_eq_true (by omega);have q4:decide (op≤9)=false:=decide_eq_false (by omega);have qa:aV op=false:=by unfold aV;simp;omega
  go_enter Tryz.func58,Tryz.ntmps58;go_wp2_with (go_at_call 101;refine(cx op h0 h1 _).mono ?_;rintro e w' ⟨rfl,rfl⟩);go_ret;exact⟨rfl,rfl⟩
 ·rw[show bV op=0 by unfold bV;repeat (first | rfl | omega | split)];have q1:(op==3)=false:=by simp;omega
  have q2:(op==20)=false:=by simp;omega
  have q3:decide (5≤op)=true:=decide_eq_true (by omega);have q4:decide (op≤9)=false:=decide_eq_false (by omega);have qa:aV op=false:=by unfold aV;simp;omega
  go_enter Tryz.func58,Tryz.ntmps58;go_wp2_with (go_at_call 101;refine(cx op h0 h1 _).mono ?_;rintro e w' ⟨rfl,rfl⟩);go_ret;exact⟨rfl,rfl⟩
 ·rw[show bV op=0 by unfold bV;repeat (first | rfl | omega | split)];have q1:(op==3)=false:=by simp;omega
  have q2:(op==20)=false:=by simp;omega
  have q3:decide (5≤op)=true:=decide_eq_true (by omega);have q4:decide (op≤9)=false:=decide_eq_false (by omega);have qa:aV op=false:=by unfold aV;simp;omega
  go_enter Tryz.func58,Tryz.ntmps58;go_wp2_with (go_at_call 101;refine(cx op h0 h1 _).mono ?_;rintro e w' ⟨rfl,rfl⟩);go_ret;exact⟨rfl,rfl⟩
 ·rw[show bV op=0 by unfold bV;repeat (first | rfl | omega | split)];have q1:(op==3)=false:=by simp;omega
  have q2:(op==20)=false:=by simp;omega
  have q3:decide (5≤op)=true:=decide_eq_true (by omega);have q4:decide (op≤9)=false:=decide_eq_false (by omega);have qa:aV op=false:=by unfold aV;simp;omega
  go_enter Tryz.func58,Tryz.ntmps58;go_wp2_with (go_at_call 101;refine(cx op h0 h1 _).mono ?_;rintro e w' ⟨rfl,rfl⟩);go_ret;exact⟨rfl,rfl⟩
 ·rw[show bV op=0 by unfold bV;repeat (first | rfl | omega | split)];have q1:(op==3)=false:=by simp;omega
  have q2:(op==20)=false:=by simp;omega
  have q3:decide (5≤op)=true:=decide_eq_true (by omega);have q4:decide (op≤9)=false:=decide_eq_false (by omega);have qa:aV op=false:=by unfold aV;simp;omega
  go_enter Tryz.func58,Tryz.ntmps58;go_wp2_with (go_at_call 101;refine(cx op h0 h1 _).mono ?_;rintro e w' ⟨rfl,rfl⟩);go_ret;exact⟨rfl,rfl⟩
 ·rw[show bV op=0 by unfold bV;repeat (first | rfl | omega | split)];have q1:(op==3)=false:=by simp;omega
  have q2:(op==20)=false:=by simp;omega
  have q3:decide (5≤op)=true:=decide_eq_true (by omega);have q4:decide (op≤9)=false:=decide_eq_false (by omega);have qa:aV op=false:=by unfold aV;simp;omega
  go_enter Tryz.func58,Tryz.ntmps58;go_wp2_with (go_at_call 101;refine(cx op h0 h1 _).mono ?_;rintro e w' ⟨rfl,rfl⟩);go_ret;exact⟨rfl,rfl⟩
theorem CH (n:Int)(w:World):Calls Tryz.prog 100 #[.int .i64 n] w fun e w'=>e=.returned (.bool (decide (1≤n∧n≤1099511627776)))∧w=w':=by
 by_cases h1:1≤n
 ·have t1:=decide_eq_true h1;by_cases h2:n≤1099511627776
  ·have t2:=decide_eq_true h2;rw[show decide (1≤n∧n≤1099511627776)=true by simp;omega];go_enter Tryz.func100,Tryz.ntmps100;go_wp2_with fail;go_ret;exact⟨rfl,rfl⟩
  ·have t2:=decide_eq_false h2;rw[show decide (1≤n∧n≤1099511627776)=false by simp;omega];go_enter Tryz.func100,Tryz.ntmps100;go_wp2_with fail;go_ret;exact⟨rfl,rfl⟩
 ·have t1:=decide_eq_false h1;rw[show decide (1≤n∧n≤1099511627776)=false by simp;omega];go_enter Tryz.func100,Tryz.ntmps100;go_wp2_with fail;go_ret;exact⟨rfl,rfl⟩
end Go.Proofs.YtfmbcoeallmnnaaGreatDoor
