/-
  A general library: the operations on symbolic values do what they stand for. Part 4: built-in functions; all operations.
-/
import Derived.Test.YtddaobhpffpmoaaSR6QSy8
set_option linter.all false
namespace Go.Abs
variable [Gl]
section
variable {P:Program}{ty:TyT}{σ:SH}
theorem roomB_ok{n b:Nat}(h:roomB n b=true):roomOk n b:=by
 simp only[roomB,leB,Bool.and_eq_true,decide_eq_true_eq]at h
 exact⟨h.1.1,h.1.2,h.2⟩
theorem flatT_append(c:Ly)(xs ys:List c.ty):((xs++ys).flatMap c.trees).map Cell.t=(xs.flatMap c.trees).map Cell.t++(ys.flatMap c.trees).map Cell.t:=by simp
theorem castL_nil{a b:Ly}(h:a.beq b=true):Ly.castL h ([]:List a.ty)=[]:=by
 have:=castL_length h []
 exact List.length_eq_zero_iff.1 this
theorem append_nil {ex : Bool} {c : Ly} {j : TInf} {m : Nat} {new : List c.ty} {s : AV} (hs : s = .c (.t (.imm [] 0 (some 0)))) (hsz : j.size = c.size) (hl : new.length = m) (hr : roomB m j.bytes = true) (hex : ex = true → m ≠ 0) :
   ∃ v0 τ,(if (0 : Nat) = 0 ∧ ([] : List T).length = 0 * j.size ∧ roomOk (0 + m) j.bytes then
               (if m = 0 then some (s,SH.den σ) else some (.c (.sl ⟨(SH.den σ).length,0,0⟩ (0 + m) none),SH.den σ ++ [{ cs := ([] : List T).map .t ++ (new.flatMap c.trees).map .t,es := j.size }]))
             else none) = some (v0,τ) ∧ Out ex (SH.den σ) (some v0) τ (some (SV.c (.sl σ.length 0 c.size 0 m none)).den) (SH.den (σ ++ [.arr c new 0])) := by
 rw [if_pos ⟨rfl,by simp,by rw [Nat.zero_add]; exact roomB_ok hr⟩]
 by_cases hm : m = 0
 · subst hm
   have : new = [] := List.length_eq_zero_iff.1 hl
   subst this
   have hex' : ex = false := by cases ex with | false => rfl | true => exact absurd rfl (hex rfl)
   refine ⟨s,SH.den σ,by simp,?_⟩
   subst hs
   have := Out.own (σ := SH.den σ) c.size hex'
   simpa [SV.den,SC.den,SH.den_push,SO.den,SH.den_length] using this
 · rw [if_neg hm]
   refine ⟨_,_,rfl,?_⟩
   have e : (SV.c (SC.sl σ.length 0 c.size 0 m none)).den = AV.c (.sl ⟨(SH.den σ).length,0,0⟩ (0 + m) none) := by simp [SV.den,SC.den,SH.den_length]
   rw [e,SH.den_push]
   simp only [SO.den,hsz,List.map_nil,List.nil_append]
   exact Out.same
theorem oneS_ok{c:Ly}{x:SV}{cs:List SC}(h:oneS σ c x=some cs):lenE x.den=some 1∧cs.length=c.size∧firstE (SH.den σ) c.size 1 x.den=some (cs.map SC.den):=by
 unfold oneS at h
 split at h
 ·rename_i id ep es lo len cap
  split at h
  ·rename_i cs' es' ep' ho
   split at h
   ·rename_i h1 h2 h3 h4 h5
    injection h with h
    subst h
    have e4:=eqB h4
    have e5:=eqB h5
    subst e4;subst e5
    have hat:(SH.den σ).at? ⟨id,ep,0*es⟩=some (SO.st cs' es' ep').den:=SH.den_at ho (eqB h1)
    refine⟨rfl,eqB h3,?_⟩
    simp only[SV.den,SC.den,firstE,hat,SO.den]
    rw[if_pos ⟨by simp[eqB h3],Nat.le_refl _⟩]
    simp only[Nat.zero_mul,Nat.one_mul,List.drop_zero,←eqB h3]
    rw[List.take_of_length_le (by simp)]
   ·cases h
  ·cases h
 ·cases h
theorem appendO_ok {ex : Bool} {j : TInf} {c : Ly} {s x v : SV} {cs : List SC} {σ' : SH} {z : List T} (hl1 : j.size = c.size) (hzl : j.size = z.length) (hpos : 0 < j.size) (hx : oneS σ c x = some cs) (h : appendO σ j c s cs = some (true,v,σ')) :
   ∃ v0 τ,(if j.size = z.length ∧ 0 < j.size then
         match firstE (SH.den σ) j.size 1 x.den with
         | some new => match s.den with
           | .c (.t (.imm cs len (some c))) =>
             if c = len ∧ cs.length = len * j.size ∧ roomOk (len + 1) j.bytes then
               (if 1 = 0 then some (s.den,SH.den σ) else some (.c (.sl ⟨(SH.den σ).length,0,0⟩ (len + 1) none),SH.den σ ++ [{ cs := cs.map .t ++ new,es := j.size }]))
             else none
           | .c (.sl r len none) => match (SH.den σ).at? r with
             | some o => if r.off = 0 ∧ o.es = j.size ∧ o.cs.length = len * j.size ∧ roomOk (len + 1) j.bytes then
                 some (.c (.sl { r with ep := r.ep + 1 } (len + 1) none),(SH.den σ).set r.id { o with cs := o.cs ++ new,ep := o.ep + 1 })
               else none
             | none => none
           | .c (.sl r len (some c)) => match (SH.den σ).at? r with
             | some o => if o.es = j.size ∧ len + 1 ≤ c ∧ r.off + c * j.size ≤ o.cs.length then
                 some (.c (.sl r (len + 1) (some c)),(SH.den σ).set r.id { o with cs := splice o.cs (r.off + len * j.size) new })
               else if o.es = j.size ∧ c < len + 1 ∧ len ≤ c ∧ r.off + c * j.size ≤ o.cs.length ∧ roomOk (len + 1) j.bytes then
                 some (.c (.sl ⟨(SH.den σ).length,0,0⟩ (len + 1) none),SH.den σ ++ [{ cs := (o.cs.drop r.off).take (len * j.size) ++ new,es := j.size }])
               else none
             | none => none
           | _ => none
         | none => none
         else none) = some (v0,τ) ∧ Out ex (SH.den σ) (some v0) τ (some v.den) (SH.den σ') := by
 obtain ⟨_,f2,f3⟩ := oneS_ok hx
 rw [if_pos ⟨hzl,hpos⟩,hl1,f3]
 unfold appendO at h
 split at h
 · simp only [Option.some.injEq,Prod.mk.injEq] at h
   obtain ⟨hr,rfl,rfl⟩ := h
   simp only [SV.den,SC.den]
   rw [if_pos ⟨trivial,by simp,by rw [Nat.zero_add]; exact roomB_ok hr⟩,if_neg (by omega)]
   refine ⟨_,_,rfl,?_⟩
   rw [SH.den_push]
   simp only [SO.den,SH.den_length,Nat.zero_mul,List.flatMap_nil,List.map_nil,List.nil_append,List.append_nil,Nat.zero_add]
   exact Out.same
 · rename_i id ep es lo len
   split at h
   · rename_i c' xs ep' ho
     split at h
     · rename_i he hs hb
       simp only [Option.some.injEq,Prod.mk.injEq,Bool.and_eq_true,eqN,decide_eq_true_eq] at h
       obtain ⟨⟨⟨rfl,hxl⟩,hr⟩,rfl,rfl⟩ := h
       have hat : (SH.den σ).at? ⟨id,ep,0 * es⟩ = some (SO.arr c' xs ep').den := SH.den_at ho (eqB he)
       have hcs : c'.size = c.size := (beq_size hb).symm
       simp only [SV.den,SC.den,hat]
       rw [if_pos ⟨Nat.zero_mul _,by simp only [SO.den,hcs],by simp only [SO.den,List.length_map,flat_length,hcs,hxl],roomB_ok hr⟩]
       refine ⟨_,_,rfl,?_⟩
       have e1 : ep' = ep := eqB he
       rw [SH.den_set]
       simp only [SO.den,e1,List.flatMap_nil,List.map_nil,List.append_nil,Nat.zero_mul]
       exact Out.same
     · cases h
   · cases h
 · rename_i id ep es lo len cp
   split at h
   · rename_i c' xs ep' ho
     split at h
     · rename_i he hs hb
       simp only [Option.some.injEq,Prod.mk.injEq,Bool.and_eq_true,leB,decide_eq_true_eq] at h
       obtain ⟨⟨h1,h2⟩,rfl,rfl⟩ := h
       have hes : es = c'.size := eqB hs
       subst hes
       have hat : (SH.den σ).at? ⟨id,ep,lo * c'.size⟩ = some (SO.arr c' xs ep').den := SH.den_at ho (eqB he)
       have hcs : c'.size = c.size := (beq_size hb).symm
       have hle := Nat.mul_le_mul_right c'.size h2
       rw [Nat.add_mul] at hle
       simp only [SV.den,SC.den,hat]
       rw [if_pos ⟨by simp only [SO.den,hcs],h1,by simp only [SO.den,List.length_map,flat_length,← hcs]; exact hle⟩]
       refine ⟨_,_,rfl,?_⟩
       have hk : lo + len < xs.length := by omega
       have e : ({ (SO.arr c' xs ep').den with cs := splice (SO.arr c' xs ep').den.cs (lo * c'.size + len * c.size) (cs.map SC.den) } : Obj) = (SO.opn c' (xs.take (lo + len)) cs (xs.drop (lo + len + 1)) ep').den := by
         simp only [SO.den]
         rw [← hcs,← Nat.add_mul,← Nat.add_zero ((lo + len) * c'.size),splice_elem hk (by rw [List.length_map,f2,hcs]; omega),splice_all (by rw [List.length_map,List.length_map,c'.trees_length,f2,hcs]),List.append_assoc]
         congr 2
         · rw [← List.map_take,flat_take]
         · rw [← List.map_drop,← Nat.succ_mul,← flat_drop]
       rw [SH.den_set,e]
       exact Out.same
     · cases h
   · cases h
 · cases h
theorem appendS_ok(hty:TyOk P ty){ex:Bool}{t:TypeId}{s x v:SV}{σ':SH}(h:appendS ex ty σ t s x=some (true,v,σ')):
  ∃v0 τ,appendE P (SH.den σ) t s.den x.den=some (v0,τ)∧Out ex (SH.den σ) (some v0) τ (some v.den) (SH.den σ'):=by
 unfold appendS at h
 split at h
 ·rename_i i c1 hi
  simp only[appendE,hty.ok _ _ _ hi]
  split at h
  ·rename_i e hk
   rw[hk]
   split at h
   ·rename_i j c hj
    simp only[hty.ok _ _ _ hj]
    obtain⟨hl1,z,hz,hl2⟩:=hty.lay _ _ _ hj
    have hzl:j.size=z.length:=by rw[hl1];have:=hl2.length;rw[List.length_map,List.length_map,Ly.trees_length]at this;exact this.symm
    have hpos:0<j.size:=by rw[hl1];exact c.size_pos
    split at h
    ·rename_i p m new hall
     have fin:∀(hp:p=true),lenE x.den=some m∧new.length=m∧firstE (SH.den σ) j.size m x.den=some ((new.flatMap c.trees).map .t):=fun hp=>by
      subst hp
      rw[hl1]
      exact allS_ok hall
     split at h
     ·
      have key:p=true∧roomB m j.bytes=true∧(ex=true→m≠0)∧v=.c (.sl σ.length 0 c.size 0 m none)∧σ'=σ++[.arr c new 0]:=by
       split at h<;>(simp only[Option.some.injEq,Prod.mk.injEq,Bool.and_eq_true,Bool.not_eq_true',eqN,decide_eq_false_iff_not]at h;obtain⟨h1,h2,h3⟩:=h)
       ·exact⟨h1.1.1,h1.2,fun _=>h1.1.2,h2.symm,h3.symm⟩
       ·exact⟨h1.1,h1.2,fun hh=>(by cases hh),h2.symm,h3.symm⟩
      obtain⟨hp,hr,hm,rfl,rfl⟩:=key
      obtain⟨f1,f2,f3⟩:=fin hp
      simp only[hz,f1,f3]
      rw[if_pos ⟨hzl,hpos⟩]
      exact append_nil rfl hl1 f2 hr hm
     ·
      rename_i c3 xs cp
      split at h
      ·rename_i hb
       have hcl:(xs.flatMap c3.trees).length=xs.length*j.size:=by rw[flat_length,beq_size hb,hl1]
       split at h
       ·simp only[Option.some.injEq,Prod.mk.injEq,Bool.and_eq_true,eqN,decide_eq_true_eq]at h
        obtain⟨⟨⟨hp,hcp⟩,hr⟩,rfl,rfl⟩:=h
        obtain⟨f1,f2,f3⟩:=fin hp
        have hm:m=0:=by
         have:lenE (SV.c SC.nils).den=some 0:=rfl
         rw[this]at f1;injection f1 with f1;exact f1.symm
        subst hm
        simp only[hz,f1,f3]
        rw[if_pos ⟨hzl,hpos⟩]
        simp only[SV.den,SC.den]
        rw[if_pos ⟨hcp,hcl,by rw[Nat.add_zero];exact roomB_ok hr⟩]
        exact⟨_,_,rfl,Out.same⟩
       ·simp only[Option.some.injEq,Prod.mk.injEq,Bool.and_eq_true,Bool.or_eq_true,Bool.not_eq_true',eqN,decide_eq_true_eq,decide_eq_false_iff_not]at h
        obtain⟨⟨⟨⟨hp,hcp⟩,hm⟩,hr⟩,rfl,rfl⟩:=h
        obtain⟨f1,f2,f3⟩:=fin hp
        simp only[hz,f1,f3]
        rw[if_pos ⟨hzl,hpos⟩]
        by_cases m0:m=0
        ·rcases hm with hm|⟨hx,hex⟩
         ·exact absurd m0 hm
         ·have:xs=[]:=List.length_eq_zero_iff.1 hx
          subst this
          have hcp':cp=0:=hcp
          subst hcp'
          have:=append_nil (σ:=σ) (ex:=ex) (c:=c) (s:=(SV.c (SC.arr c3 [] (some 0))).den) rfl hl1 f2 (by simpa using hr) (fun e=>by rw[hex]at e;cases e)
          simpa [SV.den,SC.den,castL_nil hb] using this
        ·simp only[SV.den,SC.den]
         rw[if_pos ⟨hcp,hcl,roomB_ok hr⟩,if_neg m0]
         refine⟨_,_,rfl,?_⟩
         rw[SH.den_push]
         simp only[SO.den,SH.den_length,hl1,List.flatMap_append,castL_flat,List.map_append,Nat.zero_mul]
         exact Out.same
      ·cases h
     ·
      rename_i id ep es lo len
      split at h
      ·rename_i c' xs ep' ho
       split at h
       ·rename_i hb
        split at h
        ·rename_i he hs
         simp only[Option.some.injEq,Prod.mk.injEq,Bool.and_eq_true,eqN,decide_eq_true_eq]at h
         obtain⟨⟨⟨⟨hp,h4⟩,h5⟩,h6⟩,rfl,rfl⟩:=h
         subst h4
         obtain⟨f1,f2,f3⟩:=fin hp
         have hat:(SH.den σ).at? ⟨id,ep,0*es⟩=some (SO.arr c' xs ep').den:=SH.den_at ho (eqB he)
         have hsz:c'.size=j.size:=by rw[hl1,beq_size hb]
         generalize x.den=xd at f1 f3⊢
         simp only[hz,f1,f3,SV.den,SC.den,hat]
         rw[if_pos ⟨hzl,hpos⟩,if_pos ⟨by simp,by simp only[SO.den];exact hsz,by simp only[SO.den,List.length_map,flat_length,hsz,h5],roomB_ok h6⟩]
         refine⟨_,_,rfl,?_⟩
         rw[SH.den_set]
         have e1:(SO.arr c' (xs++Ly.castL hb new) (ep+1)).den={ (SO.arr c' xs ep').den with cs:=(SO.arr c' xs ep').den.cs++(new.flatMap c.trees).map .t,ep:=(SO.arr c' xs ep').den.ep+1 }:=by
          simp only[SO.den,flatT_append,castL_flat,eqB he]
         rw[e1]
         have e2:(0*es:Nat)=0:=Nat.zero_mul _
         rw[e2]
         exact Out.same
        ·cases h
       ·cases h
      ·cases h
     ·
      rename_i id ep es lo len cp
      split at h
      ·rename_i c' xs ep' ho
       split at h
       ·rename_i hb
        split at h
        ·rename_i he hs
         simp only[Option.some.injEq,Prod.mk.injEq,Bool.and_eq_true,leB,decide_eq_true_eq]at h
         obtain⟨⟨⟨hp,h5⟩,h6⟩,rfl,rfl⟩:=h
         obtain⟨f1,f2,f3⟩:=fin hp
         have hat:(SH.den σ).at? ⟨id,ep,lo*es⟩=some (SO.arr c' xs ep').den:=SH.den_at ho (eqB he)
         have hsz:c'.size=j.size:=by rw[hl1,beq_size hb]
         have hes:es=j.size:=by rw[eqB hs,hsz]
         have hle:=Nat.mul_le_mul_right j.size h6
         rw[Nat.add_mul]at hle
         generalize x.den=xd at f1 f3⊢
         simp only[hz,f1,f3,SV.den,SC.den,hat]
         rw[if_pos ⟨hzl,hpos⟩,if_pos ⟨by simp only[SO.den];exact hsz,h5,by simp only[SO.den,List.length_map,flat_length,hsz,hes];exact hle⟩]
         refine⟨_,_,rfl,?_⟩
         rw[SH.den_set]
         have e1:(SO.arr c' (xs.take (lo+len)++Ly.castL hb new++xs.drop (lo+len+m)) ep').den={ (SO.arr c' xs ep').den with cs:=splice (SO.arr c' xs ep').den.cs (lo*es+len*j.size) ((new.flatMap c.trees).map .t) }:=by
          simp only[SO.den,flatT_append,castL_flat,splice]
          congr 1
          have e3:lo*es+len*j.size=(lo+len)*c'.size:=by rw[hes,hsz,Nat.add_mul]
          have e4:((new.flatMap c.trees).map Cell.t).length=m*c'.size:=by rw[List.length_map,flat_length,f2,hsz,hl1]
          rw[e3,e4,←Nat.add_mul,←List.map_take,←List.map_drop,flat_take,flat_drop]
         rw[e1]
         exact Out.same
        ·cases h
       ·cases h
      ·cases h
     ·cases h
    ·split at h
     ·rename_i cs hone
      obtain⟨f1,_,_⟩:=oneS_ok hone
      simp only[hz,f1]
      exact appendO_ok hl1 hzl hpos hone h
     ·cases h
   ·cases h
  ·cases h
 ·cases h
theorem firstE_min{σ:Heap}{es n m:Nat}{x:AV}{l:List Cell}(h:firstE σ es m x=some l)(hn:n≤m):firstE σ es n x=some (l.take (n*es)):=by
 have hle:=Nat.mul_le_mul_right es hn
 unfold firstE at h⊢
 split at h
 ·split at h
  ·rename_i o ho
   split at h
   ·rename_i hc
    injection h with h
    subst h
    rw[if_pos ⟨by omega,by omega⟩,List.take_take,Nat.min_eq_left hle]
   ·cases h
  ·cases h
 ·split at h
  ·rename_i hc
   injection h with h
   subst h
   rw[if_pos ⟨by omega,hc.2⟩,←List.map_take,List.take_take,Nat.min_eq_left hle]
  ·cases h
 ·split at h
  ·rename_i hc
   injection h with h
   subst h
   rw[if_pos ⟨by omega,hc.2⟩,hc.2,Nat.mul_one,←List.map_take,List.take_take,Nat.min_eq_left hn]
  ·cases h
 ·cases h
theorem copyS_ok(hty:TyOk P ty){t:TypeId}{d s v:SV}{σ':SH}(h:copyS ty σ t d s=some (true,v,σ')):copyE P (SH.den σ) t d.den s.den=some (v.den,SH.den σ'):=by
 unfold copyS at h
 split at h
 ·rename_i i c1 hi
  simp only[copyE,hty.ok _ _ _ hi]
  split at h
  ·rename_i e hk
   rw[hk]
   split at h
   ·rename_i j c2 hj
    simp only[hty.ok _ _ _ hj]
    split at h
    ·rename_i id ep es lo len cap
     split at h
     ·rename_i c xs ep' ho
      split at h
      ·rename_i p m new he hs hsz hall
       simp only[Option.some.injEq,Prod.mk.injEq,Bool.and_eq_true,leB,decide_eq_true_eq]at h
       obtain⟨⟨hp,h5⟩,rfl,rfl⟩:=h
       subst hp
       obtain⟨f1,f2,f3⟩:=allS_ok hall
       have hat:(SH.den σ).at? ⟨id,ep,lo*es⟩=some (SO.arr c xs ep').den:=SH.den_at ho (eqB he)
       have f4:=firstE_min f3 (Nat.min_le_left m len)
       rw[eqB hsz]at f4
       have hle:=Nat.mul_le_mul_right j.size h5
       rw[Nat.add_mul]at hle
       generalize s.den=sd at f1 f3 f4⊢
       simp only[SV.den,SC.den,f1,hat,f4]
       rw[if_pos ⟨by simp only[SO.den];exact eqB hsz,by simp only[SO.den,List.length_map,flat_length,eqB hsz,eqB hs];exact hle⟩]
       simp only[aI,Option.some.injEq,Prod.mk.injEq,true_and,SH.den_set]
       congr 1
       simp only[SO.den,flatT_append,splice]
       congr 1
       have hes:es=c.size:=eqB hs
       rw[hes,←eqB hsz,←List.map_take,flat_take,←List.map_take,flat_take,List.length_map,flat_length,List.length_take,f2,←List.map_drop,←Nat.add_mul,flat_drop]
       have:min (min m len) m=min m len:=by omega
       rw[this]
      ·cases h
     ·cases h
    ·cases h
   ·cases h
  ·cases h
 ·cases h
theorem builtinS_ok(hty:TyOk P ty){ex:Bool}{b:Builtin}{ts:Array TypeId}{args:List SV}{v:SV}{σ':SH}(h:builtinS ex ty σ b ts args=some (true,v,σ')):
  ∃v0 τ,builtinE P (SH.den σ) b ts (args.map SV.den)=some (v0,τ)∧Out ex (SH.den σ) (some v0) τ (some v.den) (SH.den σ'):=by
 unfold builtinS at h
 split at h
 ·
  rename_i x
  split at h
  ·rename_i t ht
   split at h
   ·rename_i i c hi
    simp only[List.map_cons,List.map_nil,builtinE,ht,hty.ok _ _ _ hi]
    split at h
    ·rename_i e hk
     rw[hk]
     split at h
     ·cases h
     ·rename_i hns
      rw[Option.map_eq_some_iff]at h
      obtain⟨n,hn,h1⟩:=h
      simp only[Prod.mk.injEq,true_and]at h1
      obtain⟨rfl,rfl⟩:=h1
      unfold lenS at hn
      split at hn<;>first|(injection hn with hn;subst hn;exact⟨_,_,rfl,Out.same⟩)|cases hn|skip
      rename_i s
      exact absurd rfl (hns s)
    ·rename_i hk
     rw[hk]
     split at h
     ·simp only[Option.some.injEq,Prod.mk.injEq,true_and]at h
      obtain⟨rfl,rfl⟩:=h
      exact⟨_,_,rfl,Out.same⟩
     ·cases h
    ·rename_i n e hk
     rw[hk]
     simp only[Option.some.injEq,Prod.mk.injEq,true_and]at h
     obtain⟨rfl,rfl⟩:=h
     refine⟨_,_,?_,Out.same⟩
     cases x with
     |c x=>cases x<;>rfl
     |_=>rfl
    ·cases h
   ·cases h
  ·cases h
 ·
  rename_i x
  split at h
  ·rename_i t ht
   split at h
   ·rename_i i c hi
    simp only[List.map_cons,List.map_nil,builtinE,ht,hty.ok _ _ _ hi]
    split at h
    ·rename_i e hk
     rw[hk]
     split at h
     ·rename_i id ep es lo len c
      split at h
      ·rename_i c' xs ep' ho
       split at h
       ·rename_i he
        simp only[Option.some.injEq,Prod.mk.injEq,true_and]at h
        obtain⟨rfl,rfl⟩:=h
        have hat:(SH.den σ).at? ⟨id,ep,lo*es⟩=some (SO.arr c' xs ep').den:=SH.den_at ho (eqB he)
        exact⟨_,_,by simp only[SV.den,SC.den,hat],Out.same⟩
       ·cases h
      ·rename_i cs es' ep' ho
       split at h
       ·rename_i he
        simp only[Option.some.injEq,Prod.mk.injEq,true_and]at h
        obtain⟨rfl,rfl⟩:=h
        have hat:(SH.den σ).at? ⟨id,ep,lo*es⟩=some (SO.st cs es' ep').den:=SH.den_at ho (eqB he)
        exact⟨_,_,by simp only[SV.den,SC.den,hat],Out.same⟩
       ·cases h
      ·cases h
     ·simp only[Option.some.injEq,Prod.mk.injEq,true_and]at h
      obtain⟨rfl,rfl⟩:=h
      exact⟨_,_,rfl,Out.same⟩
     ·simp only[Option.some.injEq,Prod.mk.injEq,true_and]at h
      obtain⟨rfl,rfl⟩:=h
      exact⟨_,_,rfl,Out.same⟩
     ·cases h
    ·cases h
   ·cases h
  ·cases h
 ·
  rename_i s x
  split at h
  ·rename_i t u ht hu
   split at h
   ·rename_i i c hi
    simp only[List.map_cons,List.map_nil,builtinE,ht,hu,hty.ok _ _ _ hi]
    split at h
    ·rename_i e hk
     rw[hk]
     exact appendS_ok hty h
    ·rename_i hk
     rw[hk]
     exact appendS_ok hty h
    ·cases h
   ·cases h
  ·cases h
 ·
  split at h
  ·rename_i t ht
   simp only[List.map_cons,List.map_nil,builtinE,ht]
   exact⟨_,_,copyS_ok hty h,Out.same⟩
  ·cases h
 ·rw[Option.map_eq_some_iff]at h
  obtain⟨c,h1,h2⟩:=h
  simp only[Prod.mk.injEq,true_and]at h2
  obtain⟨rfl,rfl⟩:=h2
  exact⟨_,_,by simp only[builtinE,minmaxS_ok h1,Option.map_some];rfl,Out.same⟩
 ·rw[Option.map_eq_some_iff]at h
  obtain⟨c,h1,h2⟩:=h
  simp only[Prod.mk.injEq,true_and]at h2
  obtain⟨rfl,rfl⟩:=h2
  exact⟨_,_,by simp only[builtinE,minmaxS_ok h1,Option.map_some];rfl,Out.same⟩
 ·cases h
theorem opS_ok(hty:TyOk P ty){ex:Bool}{r:SR}{L:Tg}{ρ:Regs}(hρ:SubR ρ r.den)(hL:r.holds L=true){op:Op}(hn:∀o xT x y yT,op=.binOp o xT x y yT→isNilConst y=false){res:Option SV}{σ':SH}(h:opS ex ty r L σ op=some (true,res,σ')):
  ∃res0 τ,opE P ρ (SH.den σ) op=some (res0,τ)∧Out ex (SH.den σ) res0 τ (res.map SV.den) (SH.den σ'):=by
 have heap0:∀{v:SV} {o:Option (Option AV×Heap)},o=some (some v.den,SH.den σ)→some v=res→σ=σ'→∃res0 τ,o=some (res0,τ)∧Out ex (SH.den σ) res0 τ (res.map SV.den) (SH.den σ'):=fun h1 h2 h3=>by
  subst h2;subst h3;exact⟨_,_,h1,Out.same⟩
 unfold opS at h
 split at h
 ·rename_i x
  rw[Option.map_eq_some_iff]at h
  obtain⟨v,h1,h2⟩:=h
  simp only[Prod.mk.injEq,true_and]at h2
  exact heap0 (v:=v) (by simp only[opE,evS_ok hρ hL h1,Option.map_some]) h2.1 h2.2
 ·rename_i x
  rw[Option.map_eq_some_iff]at h
  obtain⟨v,h1,h2⟩:=h
  simp only[Prod.mk.injEq,true_and]at h2
  exact heap0 (v:=v) (by simp only[opE,evS_ok hρ hL h1,Option.map_some]) h2.1 h2.2
 ·
  rename_i c a b
  split at h
  ·rename_i t ht
   split at h
   ·rename_i x y hx hy
    rw[Option.map_eq_some_iff]at h
    obtain⟨v,h1,h2⟩:=h
    simp only[Prod.mk.injEq,true_and]at h2
    have hc:=evS_ok hρ hL ht
    have hm:=mergeV_ok h1
    refine heap0 (v:=v) ?_ h2.1 h2.2
    simp only[opE,hc,SV.den_c,SC.den_bo]
    have hsub:∀w:Bool,t=w→r.holds (tagOf c w L)=true:=fun w hw=>by
     cases c with
     |tmp k=>
      simp only[tagOf,SR.holds_cons,hL,Bool.true_and]
      simp only[evS,SR.at]at ht
      split at ht
      ·rename_i tg v' hg
       split at ht
       ·injection ht with ht
        subst ht
        simp only[SR.isB,(SR.gget_get hg).2]
        subst hw
        cases t<;>rfl
       ·cases ht
      ·cases ht
     |_=>exact hL
    cases t with
    |true=>
     have:=evS_ok hρ (hsub true rfl) hx
     simp only[if_true,this,Option.map_some,hm,cond_true]
    |false=>
     have:=evS_ok hρ (hsub false rfl) hy
     simp only[Bool.false_eq_true,if_false,this,Option.map_some,hm,cond_false]
   ·cases h
  ·cases h
 ·
  split at h
  ·rename_i i c hi
   split at h
   ·rename_i z hz
    simp only[Option.some.injEq,Prod.mk.injEq,true_and]at h
    obtain⟨rfl,rfl⟩:=h
    obtain⟨z',h1,h2⟩:=zeroS_ok hz
    refine⟨some (AV.c (.ptr ⟨(SH.den σ).length,0,0⟩)),SH.den σ++[{ cs:=z'.map .t }],by simp only[opE,hty.ok _ _ _ hi,h1,newE],?_⟩
    simp only[Option.map_some,SV.den_c,SC.den_ptr,SH.den_push,SO.den,SH.den_length,h2]
    exact Out.same
   ·cases h
  ·cases h
 ·
  split at h
  ·rename_i v hv
   split at h
   ·rename_i hf
    simp only[Option.some.injEq,Prod.mk.injEq,true_and]at h
    obtain⟨rfl,rfl⟩:=h
    refine⟨some (AV.c (.ptr ⟨(SH.den σ).length,0,0⟩)),SH.den σ++[{ cs:=v.den.cells }],by simp only[opE,evS_ok hρ hL hv,SV.flat_den,hf,if_true,newE],?_⟩
    simp only[Option.map_some,SV.den_c,SC.den_ptr,SH.den_push,SO.den,SH.den_length,SV.cells_den]
    exact Out.same
   ·cases h
  ·cases h
 ·
  split at h
  ·rename_i vs hvs
   rw[Option.map_eq_some_iff]at h
   obtain⟨v,h1,h2⟩:=h
   simp only[Prod.mk.injEq,true_and]at h2
   exact heap0 (v:=v) (by simp only[opE,evsS_ok hρ hL hvs,buildS_ok hty h1,Option.map_some]) h2.1 h2.2
  ·cases h
 ·
  split at h
  ·rename_i vs hvs
   rw[Option.map_eq_some_iff]at h
   obtain⟨v,h1,h2⟩:=h
   obtain⟨v,σ1⟩:=v
   simp only[Prod.mk.injEq,true_and]at h2
   obtain⟨rfl,rfl⟩:=h2
   obtain⟨v0,h3,h4,h5⟩:=buildSliceS_ok hty h1
   exact⟨some v0,_,by simp only[opE,evsS_ok hρ hL hvs,h3,Option.map_some],.weak (a:=some v0) h4 WH.rfl' fun hex=>⟨by rw[h5 hex];rfl,rfl⟩⟩
  ·cases h
 ·
  split at h
  ·rename_i i c v hi hv
   rw[Option.map_eq_some_iff]at h
   obtain⟨u,h1,h2⟩:=h
   obtain⟨b,u⟩:=u
   simp only[Prod.mk.injEq]at h2
   obtain⟨rfl,h3,h4⟩:=h2
   exact heap0 (v:=u) (by simp only[opE,hty.ok _ _ _ hi,evS_ok hρ hL hv,SV.den_c,loadS_ok h1,Option.map_some]) h3 h4
  ·cases h
 ·
  split at h
  ·rename_i i c v u hi hv hu
   rw[Option.map_eq_some_iff]at h
   obtain⟨y,h1,h2⟩:=h
   obtain⟨b,y⟩:=y
   simp only[Prod.mk.injEq]at h2
   obtain⟨rfl,rfl,rfl⟩:=h2
   obtain⟨τ,h3,h4,h5⟩:=storeS_ok h1
   have hv':=evS_ok hρ hL hv
   have hu':=evS_ok hρ hL hu
   refine⟨none,τ,by simp only[opE,hty.ok _ _ _ hi,hv',hu'];simp only[SV.den_c]at h3⊢;rw[h3];rfl,.weak trivial h4 fun hex=>⟨rfl,h5 hex⟩⟩
  ·cases h
 ·
  split at h
  ·rename_i v hv
   have hv':=evS_ok hρ hL hv
   split at h
   all_goals first
    |(simp only[Option.some.injEq,Prod.mk.injEq,true_and]at h;exact heap0 (by simp only[opE,hv',SV.den_c];rfl) h.1 h.2)
    |cases h
  ·cases h
 ·
  rename_i o xT x y yT
  have hy:=hn o xT x y yT rfl
  rw[hy]at h
  simp only at h
  split at h
  ·rename_i u v hu hv
   rw[Option.map_eq_some_iff]at h
   obtain⟨t,h1,h2⟩:=h
   obtain⟨b,t⟩:=t
   simp only[Prod.mk.injEq]at h2
   obtain⟨rfl,h3,h4⟩:=h2
   have hb:=binS_ok hty h1
   rw[Option.map_eq_some_iff]at hb
   obtain⟨tt,h5,h6⟩:=hb
   exact heap0 (v:=.c t) (by simp only[opE,evS_ok hρ hL hu,evS_ok hρ hL hv,h5,Option.map_some];rw[SV.den_c,←h6]) h3 h4
  ·cases h
 ·
  split at h
  ·rename_i u hu
   rw[Option.map_eq_some_iff]at h
   obtain⟨t,h1,h2⟩:=h
   simp only[Prod.mk.injEq,true_and]at h2
   have hb:=unS_ok h1
   rw[Option.map_eq_some_iff]at hb
   obtain⟨tt,h5,h6⟩:=hb
   exact heap0 (v:=.c t) (by simp only[opE,evS_ok hρ hL hu,h5,Option.map_some];rw[SV.den_c,←h6]) h2.1 h2.2
  ·cases h
 ·
  split at h
  ·rename_i u hu
   rw[Option.map_eq_some_iff]at h
   obtain⟨t,h1,h2⟩:=h
   simp only[Prod.mk.injEq,true_and]at h2
   have hb:=convS_ok hty h1
   rw[Option.map_eq_some_iff]at hb
   obtain⟨tt,h5,h6⟩:=hb
   exact heap0 (v:=.c t) (by simp only[opE,evS_ok hρ hL hu,h5,Option.map_some];rw[SV.den_c,←h6]) h2.1 h2.2
  ·cases h
 ·
  rename_i f first caps
  split at h
  ·rename_i h1 h2
   simp only[Option.some.injEq,Prod.mk.injEq,true_and]at h
   exact heap0 (v:=.c (.fn f)) (by simp only[opE,eqB h1,if_true,evlS_ok hρ hL h2,List.map_nil,makeFuncE,tsOfAV,Option.map_some,SV.den_c,SC.den_fn,SC.den_clo]) h.1 h.2
  ·rename_i v vs h1 h2
   split at h
   ·cases h
   rename_i hyf
   rw[Option.map_eq_some_iff]at h
   obtain⟨rs,h3,h4⟩:=h
   simp only[Prod.mk.injEq,true_and]at h4
   have hr:=refsS_ok h3
   have hts:tsOfAV ((v::vs).map SV.den)=none:=by
    cases v with
    |c x=>cases x with
     |ptr id off=>rfl
     |_=>cases h3
    |_=>cases h3
   exact heap0 (v:=.c (.clo f rs)) (by simp only[opE,eqB h1,if_true,evlS_ok hρ hL h2,makeFuncE,hts,hr,hyf,Option.map_some,SV.den_c,SC.den_fn,SC.den_clo]) h4.1 h4.2
  ·cases h
 ·
  split at h
  ·rename_i u v hu hv
   rw[Option.map_eq_some_iff]at h
   obtain⟨x,h1,h2⟩:=h
   obtain⟨b,x,σ1⟩:=x
   simp only[Prod.mk.injEq]at h2
   obtain⟨rfl,rfl,rfl⟩:=h2
   exact⟨_,_,by simp only[opE,evS_ok hρ hL hu,evS_ok hρ hL hv,makeSliceS_ok hty h1,Option.map_some],Out.same⟩
  ·cases h
 ·
  split at h
  ·rename_i v l hi m h1 h2 h3 h4
   rw[Option.map_eq_some_iff]at h
   obtain⟨u,h5,h6⟩:=h
   obtain⟨b,u⟩:=u
   simp only[Prod.mk.injEq]at h6
   obtain⟨rfl,h7,h8⟩:=h6
   exact heap0 (v:=u) (by simp only[opE,evS_ok hρ hL h1,evoS_ok hρ hL h2,evoS_ok hρ hL h3,evoS_ok hρ hL h4,sliceS_ok hty h5,Option.map_some]) h7 h8
  ·cases h
 ·
  split at h
  ·rename_i v hv
   rw[Option.map_eq_some_iff]at h
   obtain⟨u,h1,h2⟩:=h
   simp only[Prod.mk.injEq,true_and]at h2
   exact heap0 (v:=.c u) (by simp only[opE,evS_ok hρ hL hv,fieldAddrS_ok hty h1,Option.map_some,SV.den_c]) h2.1 h2.2
  ·cases h
 ·
  split at h
  ·rename_i v hv
   rw[Option.map_eq_some_iff]at h
   obtain⟨u,h1,h2⟩:=h
   simp only[Prod.mk.injEq,true_and]at h2
   exact heap0 (v:=u) (by simp only[opE,evS_ok hρ hL hv,fieldS_ok hty h1,Option.map_some]) h2.1 h2.2
  ·cases h
 ·
  split at h
  ·rename_i v n hv hi
   rw[Option.map_eq_some_iff]at h
   obtain⟨u,h5,h6⟩:=h
   obtain⟨b,u⟩:=u
   simp only[Prod.mk.injEq]at h6
   obtain⟨rfl,h7,h8⟩:=h6
   exact heap0 (v:=.c u) (by simp only[opE,evS_ok hρ hL hv,evS_ok hρ hL hi,indexAddrS_ok hty h5,Option.map_some,SV.den_c]) h7 h8
  ·cases h
 ·
  split at h
  ·rename_i v n hv hi
   rw[Option.map_eq_some_iff]at h
   obtain⟨u,h5,h6⟩:=h
   obtain⟨b,u⟩:=u
   simp only[Prod.mk.injEq]at h6
   obtain⟨rfl,h7,h8⟩:=h6
   exact heap0 (v:=u) (by simp only[opE,evS_ok hρ hL hv,evS_ok hρ hL hi,indexS_ok hty h5,Option.map_some]) h7 h8
  ·cases h
 ·
  split at h
  ·rename_i v hv
   rw[Option.map_eq_some_iff]at h
   obtain⟨u,h1,h2⟩:=h
   simp only[Prod.mk.injEq,true_and]at h2
   exact heap0 (v:=u) (by simp only[opE,evS_ok hρ hL hv,extractS_ok h1,Option.map_some]) h2.1 h2.2
  ·cases h
 ·
  split at h
  ·rename_i vs hvs
   rw[Option.map_eq_some_iff]at h
   obtain⟨x,h1,h2⟩:=h
   obtain⟨b,x,σ1⟩:=x
   simp only[Prod.mk.injEq]at h2
   obtain⟨rfl,rfl,rfl⟩:=h2
   obtain⟨v0,τ,h3,h4⟩:=builtinS_ok hty h1
   exact⟨_,_,by simp only[opE,evlS_ok hρ hL hvs,h3,Option.map_some],h4⟩
  ·cases h
 ·cases h
end
end Go.Abs
