/- Decimals: a text of digits is what its number is written as, unless it begins with a needless zero. Conditions: none. -/
import Derived.Test.YtnnnemgbgilfaaaDoorAb4
import Derived.KernelRfl
set_option linter.unusedSimpArgs false
set_option linter.unusedVariables false
set_option linter.defProp false
open Bool renaming and_eq_true → yB
open List renaming getElem?_cons_zero → zn, length_append → zt, length_cons → zj, length_nil → zk
open Go Go.Ab
set_option maxHeartbeats 2000000
namespace Go.Proofs.YtnnnemgbgilfaaaDoor.W
def digB (c:UInt8):Bool:=decide (48≤c.toNat) && decide (c.toNat≤57)
def valN (s:List UInt8):Nat:=s.foldl (fun n c=>10 * n+(c.toNat - 48)) 0
def decN (n:Nat):List UInt8:=if h:n<10 then [UInt8.ofNat (48+n)] else decN (n / 10)++[UInt8.ofNat (48+n % 10)]
termination_by n
decreasing_by omega
theorem valN_app (s:List UInt8) (c:UInt8):valN (s++[c])=10 * valN s+(c.toNat - 48):=by simp [valN]
theorem dig_of {c:UInt8} (h:digB c=true):UInt8.ofNat (48+(c.toNat - 48))=c:=by
 simp only [digB,yB,decide_eq_true_eq] at h
 rw [show 48+(c.toNat - 48)=c.toNat by omega]
 exact UInt8.ofNat_toNat
theorem dig_lt {c:UInt8} (h:digB c=true):c.toNat - 48<10:=by
 simp only [digB,yB,decide_eq_true_eq] at h
 omega
theorem valN_zero:∀ (s:List UInt8),s.all digB=true→valN s=0→∀ c∈s,c=48:=by
 intro s
 have key:∀ (n:Nat) (s:List UInt8),s.length=n→s.all digB=true→valN s=0→∀ c∈s,c=48:=by
  intro n
  induction n with
  | zero=>intro s hs _ _ c hc; rw [List.eq_nil_of_length_eq_zero hs] at hc; cases hc
  | succ n ih =>
   intro s hs hd hv c hc
   have hne:s≠[]:=by rintro rfl; simp at hs
   obtain ⟨t,d,rfl⟩:∃ t d,s=t++[d]:=⟨s.dropLast,s.getLast hne,(List.dropLast_concat_getLast hne).symm⟩
   rw [valN_app] at hv
   simp only [List.all_append,List.all_cons,List.all_nil,Bool.and_true,yB] at hd
   have h1:valN t=0:=by omega
   have h2:d.toNat - 48=0:=by omega
   simp only [zt,zj,zk] at hs
   rcases List.mem_append.1 hc with h | h
   ·exact ih t (by omega) hd.1 h1 c h
   ·simp only [List.mem_singleton] at h
    subst h
    have:=dig_of hd.2
    rw [h2] at this
    exact this.symm
 exact key _ s rfl
theorem decN_val:∀ (s:List UInt8),s≠[]→s.all digB=true→(decN (valN s)=s↔(s.length=1∨s[0]?≠some 48)):=by
 have key:∀ (n:Nat) (s:List UInt8),s.length=n+1→s.all digB=true→(decN (valN s)=s↔(s.length=1∨s[0]?≠some 48)):=by
  intro n
  induction n with
  | zero =>
   intro s hs hd
   match s,hs with
   | [c],_ =>
    simp only [List.all_cons,List.all_nil,Bool.and_true] at hd
    have hv:valN [c]=c.toNat - 48:=by simp [valN]
    rw [hv,decN,dif_pos (dig_lt hd),dig_of hd]
    simp
  | succ n ih =>
   intro s hs hd
   have hne:s≠[]:=by rintro rfl; simp at hs
   obtain ⟨t,d,rfl⟩:∃ t d,s=t++[d]:=⟨s.dropLast,s.getLast hne,(List.dropLast_concat_getLast hne).symm⟩
   simp only [zt,zj,zk] at hs
   simp only [List.all_append,List.all_cons,List.all_nil,Bool.and_true,yB] at hd
   have ht:t.length=n+1:=by omega
   have iht:=ih t ht hd.1
   have h0:(t++[d])[0]?=t[0]?:=List.getElem?_append_left (show 0<t.length by omega)
   rw [valN_app,h0]
   have hl:¬ (t++[d]).length=1:=by rw [List.length_append,List.length_singleton]; omega
   have hd10:=dig_lt hd.2
   by_cases hz:valN t=0
   ·have hall:=valN_zero t hd.1 hz
    have ht0:t[0]?=some 48:=by
     match t,ht with
     | c::t',_=>simp [hall c (by simp)]
    rw [hz,decN,dif_pos (by omega)]
    constructor
    ·intro h
     have:=congrArg List.length h
     simp only [zt,zj,zk] at this
     omega
    ·rintro (h | h)
     ·exact (hl h).elim
     ·exact (h ht0).elim
   ·rw [decN,dif_neg (by omega),show (10 * valN t+(d.toNat - 48)) / 10=valN t by omega,show (10 * valN t+(d.toNat - 48)) % 10=d.toNat - 48 by omega,dig_of hd.2]
    constructor
    ·intro h
     have h1:=(List.append_inj' h rfl).1
     rcases iht.1 h1 with h2 | h2
     ·refine .inr fun h3=>hz ?_
      match t,h2 with
      | [c],_ =>
       simp only [zn,Option.some.injEq] at h3
       subst h3
       rfl
     ·exact .inr h2
    ·rintro (h | h)
     ·exact (hl h).elim
     ·rw [iht.2 (.inr h)]
 intro s hs hd
 match s,hs with
 | c::s,_=>exact key s.length (c::s) rfl hd
def numOk (s:List UInt8):Bool:=decide (1≤s.length) && decide (s.length≤7) && s.all digB && (decN (valN s) == s) && decide (valN s≤1000000)
def numI (s:List UInt8):Bool:=!(s == [] || decide (7<s.length) || (decide (1<s.length) && (s[0]?.getD 0 == 48))) && s.all digB && decide (valN s≤1000000)
theorem num_eq (s:List UInt8):numI s=numOk s:=by
 unfold numI numOk
 match s with
 | []=>rfl
 | c::s' =>
  cases hd:(c::s').all digB with
  | false=>simp
  | true =>
   have h:=decN_val (c::s') (by simp) hd
   have h1:(decN (valN (c::s')) == c::s')=(decide ((c::s').length=1) || !(c == 48)):=by
    rw [Bool.eq_iff_iff]
    simp only [beq_iff_eq,h,Bool.or_eq_true,decide_eq_true_eq,Bool.not_eq_true',beq_eq_false_iff_ne,zn,ne_eq,Option.some.injEq]
   rw [h1]
   have h2:(c::s' == [])=false:=by rfl
   rw [h2]
   simp only [zj,zn,Option.getD_some,Bool.false_or,Bool.and_true]
   by_cases hl:s'.length=0
   ·have:s'=[]:=List.eq_nil_of_length_eq_zero hl
    subst this
    simp
   ·have e1:decide (s'.length+1=1)=false:=by simp; exact fun e=>hl (by rw [e]; rfl)
    have e2:decide (1<s'.length+1)=true:=by simp; omega
    have e3:decide (1≤s'.length+1)=true:=by simp
    rw [e1,e2,e3]
    by_cases h7:7<s'.length+1
    ·have:decide (s'.length+1≤7)=false:=by simp; omega
     rw [this]
     simp [h7]
    ·have e4:decide (s'.length+1≤7)=true:=by simp; omega
     rw [e4]
     have e5:decide (7<s'.length+1)=false:=by simp; omega
     rw [e5]
     simp
theorem valN_lt:∀ (s:List UInt8),s.all digB=true→valN s<10 ^ s.length:=by
 have key:∀ (n:Nat) (s:List UInt8),s.length=n→s.all digB=true→valN s<10 ^ n:=by
  intro n
  induction n with
  | zero=>intro s hs _; rw [List.eq_nil_of_length_eq_zero hs]; decide
  | succ n ih =>
   intro s hs hd
   have hne:s≠[]:=by rintro rfl; simp at hs
   obtain ⟨t,d,rfl⟩:∃ t d,s=t++[d]:=⟨s.dropLast,s.getLast hne,(List.dropLast_concat_getLast hne).symm⟩
   simp only [zt,zj,zk] at hs
   simp only [List.all_append,List.all_cons,List.all_nil,Bool.and_true,yB] at hd
   have:=ih t (by omega) hd.1
   have:=dig_lt hd.2
   rw [valN_app,Nat.pow_succ]
   omega
 exact fun s=>key _ s rfl
end Go.Proofs.YtnnnemgbgilfaaaDoor.W
