/- A part of the proof. -/
import Derived.Test.YtddaobhpffpmoaaSR7QSy8
set_option linter.all false
namespace Go.Abs
variable [Gl]
section
variable {P:Program}{ty:TyT}{O:SH}
theorem ZN{n b:Nat}(h:Ql n b=true):Xy n b:=by simp only[Ql,leB,AC,Aj]at h;exact⟨h.1.1,h.1.2,h.2⟩
theorem YO(c:Ly)(xs ys:List c.ty):((xs++ys).flatMap c.trees).map Cell.t=(xs.flatMap c.trees).map Cell.t++(ys.flatMap c.trees).map Cell.t:=by simp
theorem castL_nil{a b:Ly}(h:a.beq b=true):Ly.JS h ([]:List a.ty)=[]:=by have:=Qz h [];exact AN.1 this
theorem append_nil {ex : Bool} {c : Ly} {j : Qp} {m : Nat} {new : List c.ty} {s : AV} (hs : s = .c (.t (.imm [] 0 (some 0)))) (hsz : j.size = c.size) (hl : new.length = m) (hr : Ql m j.bytes = true) (hex : ex = true -> m ≠ 0) :
   ∃ v0 τ,(if (0 : Nat) = 0 /\ ([] : List T).length = 0 * j.size /\ Xy (0 + m) j.bytes then
               (if m = 0 then some (s,SH.den O) else some (.c (.sl ⟨(SH.den O).length,0,0⟩ (0 + m) none),SH.den O ++ [{ cs := ([] : List T).map .t ++ (new.flatMap c.trees).map .t,es := j.size }]))
             else none) = some (v0,τ) /\ Out ex (SH.den O) (some v0) τ (some (SV.c (.sl O.length 0 c.size 0 m none)).den) (SH.den (O ++ [.arr c new 0])) := by
 rw [AB ⟨rfl,by simp,by rw [Ac]; exact ZN hr⟩];by_cases hm : m = 0
 · subst hm
   have : new = [] := AN.1 hl;subst this;have hex' : ex = false := by cases ex with | false => rfl | true => exact absurd rfl (hex rfl)
   refine ⟨s,SH.den O,by simp,?_⟩;subst hs;have := Out.own (O := SH.den O) c.size hex';simpa [SV.den,SC.den,SH.Jp,SO.den,SH.QE] using this
 · rw [AE hm]
   refine ⟨_,_,rfl,?_⟩;have e : (SV.c (SC.sl O.length 0 c.size 0 m none)).den = AV.c (.sl ⟨(SH.den O).length,0,0⟩ (0 + m) none) := (by simp [SV.den,SC.den,SH.QE]);rw [e,SH.Jp];simp only [SO.den,hsz,Ba,BY];exact Out.same
theorem oneS_ok{c:Ly}{x:SV}{cs:List SC}(h:oneS O c x=some cs):lenE x.den=some 1/\cs.length=c.size/\Qt (SH.den O) c.size 1 x.den=some (cs.map SC.den):=by
 unfold oneS at h;split at h
 ·rename_i id ep es lo len cap;split at h
  ·rename_i cs' es' ep' ho;split at h
   ·rename_i h1 h2 h3 h4 h5;injection h with h;subst h;have e4:=eqB h4;have e5:=eqB h5;subst e4;subst e5;have hat:(SH.den O).at? ⟨id,ep,0*es⟩=some (SO.st cs' es' ep').den:=SH.JB ho (eqB h1);refine⟨rfl,eqB h3,?_⟩;simp only[SV.den,SC.den,Qt,hat,SO.den];rw[AB ⟨by simp[eqB h3],A9 _⟩];simp only[B6,Nat.one_mul,An,<-eqB h3];rw[AS (by simp)]
   ·cases h
  ·cases h
 ·cases h
theorem appendO_ok {ex : Bool} {j : Qp} {c : Ly} {s x v : SV} {cs : List SC} {A' : SH} {z : List T} (hl1 : j.size = c.size) (hzl : j.size = z.length) (hpos : 0 < j.size) (hx : oneS O c x = some cs) (h : appendO O j c s cs = some (true,v,A')) :
   ∃ v0 τ,(if j.size = z.length /\ 0 < j.size then
         match Qt (SH.den O) j.size 1 x.den with
         | some new => match s.den with
           | .c (.t (.imm cs len (some c))) =>
             if c = len /\ cs.length = len * j.size /\ Xy (len + 1) j.bytes then
               (if 1 = 0 then some (s.den,SH.den O) else some (.c (.sl ⟨(SH.den O).length,0,0⟩ (len + 1) none),SH.den O ++ [{ cs := cs.map .t ++ new,es := j.size }]))
             else none
           | .c (.sl r len none) => match (SH.den O).at? r with
             | some o => if r.off = 0 /\ o.es = j.size /\ o.cs.length = len * j.size /\ Xy (len + 1) j.bytes then
                 some (.c (.sl { r with ep := r.ep + 1 } (len + 1) none),(SH.den O).set r.id { o with cs := o.cs ++ new,ep := o.ep + 1 })
               else none
             | none => none
           | .c (.sl r len (some c)) => match (SH.den O).at? r with
             | some o => if o.es = j.size /\ len + 1 <= c /\ r.off + c * j.size <= o.cs.length then
                 some (.c (.sl r (len + 1) (some c)),(SH.den O).set r.id { o with cs := QX o.cs (r.off + len * j.size) new })
               else if o.es = j.size /\ c < len + 1 /\ len <= c /\ r.off + c * j.size <= o.cs.length /\ Xy (len + 1) j.bytes then
                 some (.c (.sl ⟨(SH.den O).length,0,0⟩ (len + 1) none),SH.den O ++ [{ cs := (o.cs.drop r.off).take (len * j.size) ++ new,es := j.size }])
               else none
             | none => none
           | _ => none
         | none => none
         else none) = some (v0,τ) /\ Out ex (SH.den O) (some v0) τ (some v.den) (SH.den A') := by
 obtain ⟨_,f2,f3⟩ := oneS_ok hx;rw [AB ⟨hzl,hpos⟩,hl1,f3];unfold appendO at h;split at h
 · simp only [A0,A4] at h
   obtain ⟨hr,rfl,rfl⟩ := h;simp only [SV.den,SC.den];rw [AB ⟨trivial,by simp,by rw [Ac]; exact ZN hr⟩,AE (by omega)];refine ⟨_,_,rfl,?_⟩;rw [SH.Jp];simp only [SO.den,SH.QE,B6,List.flatMap_nil,Ba,BY,List.append_nil,Ac];exact Out.same
 · rename_i id ep es lo len
   split at h
   · rename_i c' xs ep' ho
     split at h
     · rename_i he hs hb
       simp only [A0,A4,AC,eqN,Aj] at h;obtain ⟨⟨⟨rfl,hxl⟩,hr⟩,rfl,rfl⟩ := h;have hat : (SH.den O).at? ⟨id,ep,0 * es⟩ = some (SO.arr c' xs ep').den := SH.JB ho (eqB he);have hcs : c'.size = c.size := (Jr hb).symm;simp only [SV.den,SC.den,hat];rw [AB ⟨B6 _,by simp only [SO.den,hcs],by simp only [SO.den,AG,QW,hcs,hxl],ZN hr⟩];refine ⟨_,_,rfl,?_⟩;have e1 : ep' = ep := eqB he;rw [SH.JJ];simp only [SO.den,e1,List.flatMap_nil,Ba,List.append_nil,B6];exact Out.same
     · cases h
   · cases h
 · rename_i id ep es lo len cp
   split at h
   · rename_i c' xs ep' ho
     split at h
     · rename_i he hs hb
       simp only [A0,A4,AC,leB,Aj] at h;obtain ⟨⟨h1,h2⟩,rfl,rfl⟩ := h;have hes : es = c'.size := eqB hs;subst hes;have hat : (SH.den O).at? ⟨id,ep,lo * c'.size⟩ = some (SO.arr c' xs ep').den := SH.JB ho (eqB he);have hcs : c'.size = c.size := (Jr hb).symm;have hle := Ae c'.size h2;rw [As] at hle;simp only [SV.den,SC.den,hat];rw [AB ⟨by simp only [SO.den,hcs],h1,by simp only [SO.den,AG,QW,<- hcs]; exact hle⟩];refine ⟨_,_,rfl,?_⟩;have hk : lo + len < xs.length := (by omega);have e : ({ (SO.arr c' xs ep').den with cs := QX (SO.arr c' xs ep').den.cs (lo * c'.size + len * c.size) (cs.map SC.den) } : Obj) = (SO.opn c' (xs.take (lo + len)) cs (xs.drop (lo + len + 1)) ep').den := by
         simp only [SO.den];rw [<- hcs,<- As,<- BZ ((lo + len) * c'.size),Yb hk (by rw [AG,f2,hcs]; omega),Kc (by rw [AG,AG,c'.QC,f2,hcs]),Aw];congr 2
         · rw [<- BQ,Xm]
         · rw [<- BE,<- BS,<- XO]
       rw [SH.JJ,e];exact Out.same
     · cases h
   · cases h
 · cases h
theorem qI(hty:Z1 P ty){ex:Bool}{t:TypeId}{s x v:SV}{A':SH}(h:KI ex ty O t s x=some (true,v,A')):
  ∃v0 τ,JO P (SH.den O) t s.den x.den=some (v0,τ)/\Out ex (SH.den O) (some v0) τ (some v.den) (SH.den A'):=by
 unfold KI at h;split at h
 ·rename_i i c1 hi;simp only[JO,hty.ok _ _ _ hi];split at h
  ·rename_i e hk;rw[hk];split at h
   ·rename_i j c hj;simp only[hty.ok _ _ _ hj];obtain⟨hl1,z,hz,hl2⟩:=hty.lay _ _ _ hj;have hzl:j.size=z.length:=(by rw[hl1];have:=hl2.length;rw[AG,AG,Ly.QC]at this;exact this.symm);have hpos:0<j.size:=(by rw[hl1];exact c.size_pos);split at h
    ·rename_i p m new hall;have fin:∀(hp:p=true),lenE x.den=some m/\new.length=m/\Qt (SH.den O) j.size m x.den=some ((new.flatMap c.trees).map .t):=λhp=>(by subst hp;rw[hl1];exact allS_ok hall);split at h
     ·
      have key:p=true/\Ql m j.bytes=true/\(ex=true->m≠0)/\v=.c (.sl O.length 0 c.size 0 m none)/\A'=O++[.arr c new 0]:=by
       split at h<;>(simp only[A0,A4,AC,CB,eqN,decide_eq_false_iff_not]at h;obtain⟨h1,h2,h3⟩:=h)
       ·exact⟨h1.1.1,h1.2,λ_=>h1.1.2,h2.symm,h3.symm⟩
       ·exact⟨h1.1,h1.2,λhh=>(by cases hh),h2.symm,h3.symm⟩
      obtain⟨hp,hr,hm,rfl,rfl⟩:=key;obtain⟨f1,f2,f3⟩:=fin hp;simp only[hz,f1,f3];rw[AB ⟨hzl,hpos⟩];exact append_nil rfl hl1 f2 hr hm
     ·
      rename_i c3 xs cp;split at h
      ·rename_i hb;have hcl:(xs.flatMap c3.trees).length=xs.length*j.size:=(by rw[QW,Jr hb,hl1]);split at h
       ·simp only[A0,A4,AC,eqN,Aj]at h;obtain⟨⟨⟨hp,hcp⟩,hr⟩,rfl,rfl⟩:=h;obtain⟨f1,f2,f3⟩:=fin hp;have hm:m=0:=(by have:lenE (SV.c SC.nils).den=some 0:=rfl;rw[this]at f1;injection f1 with f1;exact f1.symm);subst hm;simp only[hz,f1,f3];rw[AB ⟨hzl,hpos⟩];simp only[SV.den,SC.den];rw[AB ⟨hcp,hcl,by rw[BZ];exact ZN hr⟩];exact⟨_,_,rfl,Out.same⟩
       ·simp only[A0,A4,AC,By,CB,eqN,Aj,decide_eq_false_iff_not]at h;obtain⟨⟨⟨⟨hp,hcp⟩,hm⟩,hr⟩,rfl,rfl⟩:=h;obtain⟨f1,f2,f3⟩:=fin hp;simp only[hz,f1,f3];rw[AB ⟨hzl,hpos⟩];by_cases m0:m=0
        ·rcases hm with hm|⟨hx,hex⟩
         ·exact absurd m0 hm
         ·have:xs=[]:=AN.1 hx;subst this;have hcp':cp=0:=hcp;subst hcp';have:=append_nil (O:=O) (ex:=ex) (c:=c) (s:=(SV.c (SC.arr c3 [] (some 0))).den) rfl hl1 f2 (by simpa using hr) (λe=>by rw[hex]at e;cases e);simpa [SV.den,SC.den,castL_nil hb] using this
        ·simp only[SV.den,SC.den];rw[AB ⟨hcp,hcl,ZN hr⟩,AE m0];refine⟨_,_,rfl,?_⟩;rw[SH.Jp];simp only[SO.den,SH.QE,hl1,CZ,Qk,AZ,B6];exact Out.same
      ·cases h
     ·
      rename_i id ep es lo len;split at h
      ·rename_i c' xs ep' ho;split at h
       ·rename_i hb;split at h
        ·rename_i he hs;simp only[A0,A4,AC,eqN,Aj]at h;obtain⟨⟨⟨⟨hp,h4⟩,h5⟩,h6⟩,rfl,rfl⟩:=h;subst h4;obtain⟨f1,f2,f3⟩:=fin hp;have hat:(SH.den O).at? ⟨id,ep,0*es⟩=some (SO.arr c' xs ep').den:=SH.JB ho (eqB he);have hsz:c'.size=j.size:=(by rw[hl1,Jr hb]);generalize x.den=xd at f1 f3⊢;simp only[hz,f1,f3,SV.den,SC.den,hat];rw[AB ⟨hzl,hpos⟩,AB ⟨by simp,by simp only[SO.den];exact hsz,by simp only[SO.den,AG,QW,hsz,h5],ZN h6⟩];refine⟨_,_,rfl,?_⟩;rw[SH.JJ];have e1:(SO.arr c' (xs++Ly.JS hb new) (ep+1)).den={ (SO.arr c' xs ep').den with cs:=(SO.arr c' xs ep').den.cs++(new.flatMap c.trees).map .t,ep:=(SO.arr c' xs ep').den.ep+1 }:=(by simp only[SO.den,YO,Qk,eqB he]);rw[e1];have e2:(0*es:Nat)=0:=B6 _;rw[e2];exact Out.same
        ·cases h
       ·cases h
      ·cases h
     ·
      rename_i id ep es lo len cp;split at h
      ·rename_i c' xs ep' ho;split at h
       ·rename_i hb;split at h
        ·rename_i he hs;simp only[A0,A4,AC,leB,Aj]at h;obtain⟨⟨⟨hp,h5⟩,h6⟩,rfl,rfl⟩:=h;obtain⟨f1,f2,f3⟩:=fin hp;have hat:(SH.den O).at? ⟨id,ep,lo*es⟩=some (SO.arr c' xs ep').den:=SH.JB ho (eqB he);have hsz:c'.size=j.size:=(by rw[hl1,Jr hb]);have hes:es=j.size:=(by rw[eqB hs,hsz]);have hle:=Ae j.size h6;rw[As]at hle;generalize x.den=xd at f1 f3⊢;simp only[hz,f1,f3,SV.den,SC.den,hat];rw[AB ⟨hzl,hpos⟩,AB ⟨by simp only[SO.den];exact hsz,h5,by simp only[SO.den,AG,QW,hsz,hes];exact hle⟩];refine⟨_,_,rfl,?_⟩;rw[SH.JJ];have e1:(SO.arr c' (xs.take (lo+len)++Ly.JS hb new++xs.drop (lo+len+m)) ep').den={ (SO.arr c' xs ep').den with cs:=QX (SO.arr c' xs ep').den.cs (lo*es+len*j.size) ((new.flatMap c.trees).map .t) }:=(by simp only[SO.den,YO,Qk,QX];congr 1;have e3:lo*es+len*j.size=(lo+len)*c'.size:=(by rw[hes,hsz,As]);have e4:((new.flatMap c.trees).map Cell.t).length=m*c'.size:=(by rw[AG,QW,f2,hsz,hl1]);rw[e3,e4,<-As,<-BQ,<-BE,Xm,XO]);rw[e1];exact Out.same
        ·cases h
       ·cases h
      ·cases h
     ·cases h
    ·split at h
     ·rename_i cs hone;obtain⟨f1,_,_⟩:=oneS_ok hone;simp only[hz,f1];exact appendO_ok hl1 hzl hpos hone h
     ·cases h
   ·cases h
  ·cases h
 ·cases h
theorem firstE_min{O:Q1}{es n m:Nat}{x:AV}{l:List Cell}(h:Qt O es m x=some l)(hn:n<=m):Qt O es n x=some (l.take (n*es)):=by
 have hle:=Ae es hn;unfold Qt at h⊢;split at h
 ·split at h
  ·rename_i o ho;split at h
   ·rename_i hc;injection h with h;subst h;rw[AB ⟨by omega,by omega⟩,List.take_take,B1 hle]
   ·cases h
  ·cases h
 ·split at h
  ·rename_i hc;injection h with h;subst h;rw[AB ⟨by omega,hc.2⟩,<-BQ,List.take_take,B1 hle]
  ·cases h
 ·split at h
  ·rename_i hc;injection h with h;subst h;rw[AB ⟨by omega,hc.2⟩,hc.2,Nat.mul_one,<-BQ,List.take_take,B1 hn]
  ·cases h
 ·cases h
theorem copyS_ok(hty:Z1 P ty){t:TypeId}{d s v:SV}{A':SH}(h:copyS ty O t d s=some (true,v,A')):Uj P (SH.den O) t d.den s.den=some (v.den,SH.den A'):=by
 unfold copyS at h;split at h
 ·rename_i i c1 hi;simp only[Uj,hty.ok _ _ _ hi];split at h
  ·rename_i e hk;rw[hk];split at h
   ·rename_i j c2 hj;simp only[hty.ok _ _ _ hj];split at h
    ·rename_i id ep es lo len cap;split at h
     ·rename_i c xs ep' ho;split at h
      ·rename_i p m new he hs hsz hall;simp only[A0,A4,AC,leB,Aj]at h;obtain⟨⟨hp,h5⟩,rfl,rfl⟩:=h;subst hp;obtain⟨f1,f2,f3⟩:=allS_ok hall;have hat:(SH.den O).at? ⟨id,ep,lo*es⟩=some (SO.arr c xs ep').den:=SH.JB ho (eqB he);have f4:=firstE_min f3 (Nat.min_le_left m len);rw[eqB hsz]at f4;have hle:=Ae j.size h5;rw[As]at hle;generalize s.den=sd at f1 f3 f4⊢;simp only[SV.den,SC.den,f1,hat,f4];rw[AB ⟨by simp only[SO.den];exact eqB hsz,by simp only[SO.den,AG,QW,eqB hsz,eqB hs];exact hle⟩];simp only[aI,A0,A4,Ak,SH.JJ];congr 1;simp only[SO.den,YO,QX];congr 1;have hes:es=c.size:=eqB hs;rw[hes,<-eqB hsz,<-BQ,Xm,<-BQ,Xm,AG,QW,Bb,f2,<-BE,<-As,XO];have:min (min m len) m=min m len:=(by omega);rw[this]
      ·cases h
     ·cases h
    ·cases h
   ·cases h
  ·cases h
 ·cases h
theorem builtinS_ok(hty:Z1 P ty){ex:Bool}{b:Builtin}{ts:Array TypeId}{args:List SV}{v:SV}{A':SH}(h:Xw ex ty O b ts args=some (true,v,A')):
  ∃v0 τ,Qc P (SH.den O) b ts (args.map SV.den)=some (v0,τ)/\Out ex (SH.den O) (some v0) τ (some v.den) (SH.den A'):=by
 unfold Xw at h;split at h
 ·
  rename_i x;split at h
  ·rename_i t ht;split at h
   ·rename_i i c hi;simp only[AQ,Ba,Qc,ht,hty.ok _ _ _ hi];split at h
    ·rename_i e hk;rw[hk];split at h
     ·cases h
     ·rename_i hns;rw[A2]at h;obtain⟨n,hn,h1⟩:=h;simp only[A4,Ak]at h1;obtain⟨rfl,rfl⟩:=h1;unfold lenS at hn;split at hn<;>first|(injection hn with hn;subst hn;exact⟨_,_,rfl,Out.same⟩)|cases hn|skip
      rename_i s;exact absurd rfl (hns s)
    ·rename_i hk;rw[hk];split at h
     ·simp only[A0,A4,Ak]at h;obtain⟨rfl,rfl⟩:=h;exact⟨_,_,rfl,Out.same⟩
     ·cases h
    ·rename_i n e hk;rw[hk];simp only[A0,A4,Ak]at h;obtain⟨rfl,rfl⟩:=h;refine⟨_,_,?_,Out.same⟩
     cases x with
     |c x=>cases x<;>rfl
     |_=>rfl
    ·cases h
   ·cases h
  ·cases h
 ·
  rename_i x;split at h
  ·rename_i t ht;split at h
   ·rename_i i c hi;simp only[AQ,Ba,Qc,ht,hty.ok _ _ _ hi];split at h
    ·rename_i e hk;rw[hk];split at h
     ·rename_i id ep es lo len c;split at h
      ·rename_i c' xs ep' ho;split at h
       ·rename_i he;simp only[A0,A4,Ak]at h;obtain⟨rfl,rfl⟩:=h;have hat:(SH.den O).at? ⟨id,ep,lo*es⟩=some (SO.arr c' xs ep').den:=SH.JB ho (eqB he);exact⟨_,_,by simp only[SV.den,SC.den,hat],Out.same⟩
       ·cases h
      ·rename_i cs es' ep' ho;split at h
       ·rename_i he;simp only[A0,A4,Ak]at h;obtain⟨rfl,rfl⟩:=h;have hat:(SH.den O).at? ⟨id,ep,lo*es⟩=some (SO.st cs es' ep').den:=SH.JB ho (eqB he);exact⟨_,_,by simp only[SV.den,SC.den,hat],Out.same⟩
       ·cases h
      ·cases h
     ·simp only[A0,A4,Ak]at h;obtain⟨rfl,rfl⟩:=h;exact⟨_,_,rfl,Out.same⟩
     ·simp only[A0,A4,Ak]at h;obtain⟨rfl,rfl⟩:=h;exact⟨_,_,rfl,Out.same⟩
     ·cases h
    ·cases h
   ·cases h
  ·cases h
 ·
  rename_i s x;split at h
  ·rename_i t u ht hu;split at h
   ·rename_i i c hi;simp only[AQ,Ba,Qc,ht,hu,hty.ok _ _ _ hi];split at h
    ·rename_i e hk;rw[hk];exact qI hty h
    ·rename_i hk;rw[hk];exact qI hty h
    ·cases h
   ·cases h
  ·cases h
 ·
  split at h
  ·rename_i t ht;simp only[AQ,Ba,Qc,ht];exact⟨_,_,copyS_ok hty h,Out.same⟩
  ·cases h
 ·rw[A2]at h;obtain⟨c,h1,h2⟩:=h;simp only[A4,Ak]at h2;obtain⟨rfl,rfl⟩:=h2;exact⟨_,_,by simp only[Qc,Vc h1,AD];rfl,Out.same⟩
 ·rw[A2]at h;obtain⟨c,h1,h2⟩:=h;simp only[A4,Ak]at h2;obtain⟨rfl,rfl⟩:=h2;exact⟨_,_,by simp only[Qc,Vc h1,AD];rfl,Out.same⟩
 ·cases h
theorem opS_ok(hty:Z1 P ty){ex:Bool}{r:SR}{L:Tg}{ρ:Q0}(Hr:Qm ρ r.den)(hL:r.holds L=true){op:Op}(hn:∀o xT x y yT,op=.binOp o xT x y yT->JM y=false){res:Option SV}{A':SH}(h:opS ex ty r L O op=some (true,res,A')):
  ∃res0 τ,opE P ρ (SH.den O) op=some (res0,τ)/\Out ex (SH.den O) res0 τ (res.map SV.den) (SH.den A'):=by
 have heap0:∀{v:SV} {o:Option (Option AV×Q1)},o=some (some v.den,SH.den O)->some v=res->O=A'->∃res0 τ,o=some (res0,τ)/\Out ex (SH.den O) res0 τ (res.map SV.den) (SH.den A'):=λh1 h2 h3=>by subst h2;subst h3;exact⟨_,_,h1,Out.same⟩
 unfold opS at h;split at h
 ·rename_i x;rw[A2]at h;obtain⟨v,h1,h2⟩:=h;simp only[A4,Ak]at h2;exact heap0 (v:=v) (by simp only[opE,QY Hr hL h1,AD]) h2.1 h2.2
 ·rename_i x;rw[A2]at h;obtain⟨v,h1,h2⟩:=h;simp only[A4,Ak]at h2;exact heap0 (v:=v) (by simp only[opE,QY Hr hL h1,AD]) h2.1 h2.2
 ·
  rename_i c a b;split at h
  ·rename_i t ht;split at h
   ·rename_i x y hx hy;rw[A2]at h;obtain⟨v,h1,h2⟩:=h;simp only[A4,Ak]at h2;have hc:=QY Hr hL ht;have hm:=mergeV_ok h1;refine heap0 (v:=v) ?_ h2.1 h2.2;simp only[opE,hc,SV.XW,SC.den_bo];have hsub:∀w:Bool,t=w->r.holds (tagOf c w L)=true:=λw hw=>by
     cases c with
     |tmp k=>
      simp only[tagOf,SR.JW,hL,BF];simp only[evS,SR.at]at ht;split at ht
      ·rename_i tg v' hg;split at ht
       ·injection ht with ht;subst ht;simp only[SR.isB,(SR.XU hg).2];subst hw;cases t<;>rfl
       ·cases ht
      ·cases ht
     |_=>exact hL
    cases t with
    |true=>have:=QY Hr (hsub true rfl) hx;simp only[Ai,this,AD,hm,A7]
    |false=>have:=QY Hr (hsub false rfl) hy;simp only[AP,Af,this,AD,hm,AA]
   ·cases h
  ·cases h
 ·
  split at h
  ·rename_i i c hi;split at h
   ·rename_i z hz;simp only[A0,A4,Ak]at h;obtain⟨rfl,rfl⟩:=h;obtain⟨z',h1,h2⟩:=YY hz;refine⟨some (AV.c (.ptr ⟨(SH.den O).length,0,0⟩)),SH.den O++[{ cs:=z'.map .t }],by simp only[opE,hty.ok _ _ _ hi,h1,Ki],?_⟩;simp only[AD,SV.XW,SC.den_ptr,SH.Jp,SO.den,SH.QE,h2];exact Out.same
   ·cases h
  ·cases h
 ·
  split at h
  ·rename_i v hv;split at h
   ·rename_i hf;simp only[A0,A4,Ak]at h;obtain⟨rfl,rfl⟩:=h;refine⟨some (AV.c (.ptr ⟨(SH.den O).length,0,0⟩)),SH.den O++[{ cs:=v.den.cells }],by simp only[opE,QY Hr hL hv,SV.Vn,hf,Ai,Ki],?_⟩;simp only[AD,SV.XW,SC.den_ptr,SH.Jp,SO.den,SH.QE,SV.Jb];exact Out.same
   ·cases h
  ·cases h
 ·
  split at h
  ·rename_i vs hvs;rw[A2]at h;obtain⟨v,h1,h2⟩:=h;simp only[A4,Ak]at h2;exact heap0 (v:=v) (by simp only[opE,evsS_ok Hr hL hvs,buildS_ok hty h1,AD]) h2.1 h2.2
  ·cases h
 ·
  split at h
  ·rename_i vs hvs;rw[A2]at h;obtain⟨v,h1,h2⟩:=h;obtain⟨v,A1⟩:=v;simp only[A4,Ak]at h2;obtain⟨rfl,rfl⟩:=h2;obtain⟨v0,h3,h4,h5⟩:=qC hty h1;exact⟨some v0,_,by simp only[opE,evsS_ok Hr hL hvs,h3,AD],.Xf (a:=some v0) h4 WH.rfl' λhex=>⟨by rw[h5 hex];rfl,rfl⟩⟩
  ·cases h
 ·
  split at h
  ·rename_i i c v hi hv;rw[A2]at h;obtain⟨u,h1,h2⟩:=h;obtain⟨b,u⟩:=u;simp only[A4]at h2;obtain⟨rfl,h3,h4⟩:=h2;exact heap0 (v:=u) (by simp only[opE,hty.ok _ _ _ hi,QY Hr hL hv,SV.XW,loadS_ok h1,AD]) h3 h4
  ·cases h
 ·
  split at h
  ·rename_i i c v u hi hv hu;rw[A2]at h;obtain⟨y,h1,h2⟩:=h;obtain⟨b,y⟩:=y;simp only[A4]at h2;obtain⟨rfl,rfl,rfl⟩:=h2;obtain⟨τ,h3,h4,h5⟩:=storeS_ok h1;have hv':=QY Hr hL hv;have hu':=QY Hr hL hu;refine⟨none,τ,by simp only[opE,hty.ok _ _ _ hi,hv',hu'];simp only[SV.XW]at h3⊢;rw[h3];rfl,.Xf trivial h4 λhex=>⟨rfl,h5 hex⟩⟩
  ·cases h
 ·
  split at h
  ·rename_i v hv;have hv':=QY Hr hL hv;split at h;all_goals first
    |(simp only[A0,A4,Ak]at h;exact heap0 (by simp only[opE,hv',SV.XW];rfl) h.1 h.2)
    |cases h
  ·cases h
 ·
  rename_i o xT x y yT;have hy:=hn o xT x y yT rfl;rw[hy]at h;simp only at h;split at h
  ·rename_i u v hu hv;rw[A2]at h;obtain⟨t,h1,h2⟩:=h;obtain⟨b,t⟩:=t;simp only[A4]at h2;obtain⟨rfl,h3,h4⟩:=h2;have hb:=binS_ok hty h1;rw[A2]at hb;obtain⟨tt,h5,h6⟩:=hb;exact heap0 (v:=.c t) (by simp only[opE,QY Hr hL hu,QY Hr hL hv,h5,AD];rw[SV.XW,<-h6]) h3 h4
  ·cases h
 ·
  split at h
  ·rename_i u hu;rw[A2]at h;obtain⟨t,h1,h2⟩:=h;simp only[A4,Ak]at h2;have hb:=unS_ok h1;rw[A2]at hb;obtain⟨tt,h5,h6⟩:=hb;exact heap0 (v:=.c t) (by simp only[opE,QY Hr hL hu,h5,AD];rw[SV.XW,<-h6]) h2.1 h2.2
  ·cases h
 ·
  split at h
  ·rename_i u hu;rw[A2]at h;obtain⟨t,h1,h2⟩:=h;simp only[A4,Ak]at h2;have hb:=convS_ok hty h1;rw[A2]at hb;obtain⟨tt,h5,h6⟩:=hb;exact heap0 (v:=.c t) (by simp only[opE,QY Hr hL hu,h5,AD];rw[SV.XW,<-h6]) h2.1 h2.2
  ·cases h
 ·
  rename_i f first caps
  split at h
  ·rename_i h1 h2;simp only[A0,A4,Ak]at h;exact heap0 (v:=.c (.fn f)) (by simp only[opE,eqB h1,Ai,Zg Hr hL h2,Ba,ZD,Kb,AD,SV.XW,SC.den_fn,SC.den_clo]) h.1 h.2
  ·rename_i v vs h1 h2;split at h
   ·cases h
   rename_i hyf;rw[A2]at h;obtain⟨rs,h3,h4⟩:=h;simp only[A4,Ak]at h4;have hr:=refsS_ok h3;have hts:Kb ((v::vs).map SV.den)=none:=by
    cases v with
    |c x=>cases x with
     |ptr id off=>rfl
     |_=>cases h3
    |_=>cases h3
   exact heap0 (v:=.c (.clo f rs)) (by simp only[opE,eqB h1,Ai,Zg Hr hL h2,ZD,hts,hr,hyf,AD,SV.XW,SC.den_fn,SC.den_clo]) h4.1 h4.2
  ·cases h
 ·
  split at h
  ·rename_i u v hu hv;rw[A2]at h;obtain⟨x,h1,h2⟩:=h;obtain⟨b,x,A1⟩:=x;simp only[A4]at h2;obtain⟨rfl,rfl,rfl⟩:=h2;exact⟨_,_,by simp only[opE,QY Hr hL hu,QY Hr hL hv,Zm hty h1,AD],Out.same⟩
  ·cases h
 ·
  split at h
  ·rename_i v l hi m h1 h2 h3 h4;rw[A2]at h;obtain⟨u,h5,h6⟩:=h;obtain⟨b,u⟩:=u;simp only[A4]at h6;obtain⟨rfl,h7,h8⟩:=h6;exact heap0 (v:=u) (by simp only[opE,QY Hr hL h1,evoS_ok Hr hL h2,evoS_ok Hr hL h3,evoS_ok Hr hL h4,sliceS_ok hty h5,AD]) h7 h8
  ·cases h
 ·
  split at h
  ·rename_i v hv;rw[A2]at h;obtain⟨u,h1,h2⟩:=h;simp only[A4,Ak]at h2;exact heap0 (v:=.c u) (by simp only[opE,QY Hr hL hv,fieldAddrS_ok hty h1,AD,SV.XW]) h2.1 h2.2
  ·cases h
 ·
  split at h
  ·rename_i v hv;rw[A2]at h;obtain⟨u,h1,h2⟩:=h;simp only[A4,Ak]at h2;exact heap0 (v:=u) (by simp only[opE,QY Hr hL hv,fieldS_ok hty h1,AD]) h2.1 h2.2
  ·cases h
 ·
  split at h
  ·rename_i v n hv hi;rw[A2]at h;obtain⟨u,h5,h6⟩:=h;obtain⟨b,u⟩:=u;simp only[A4]at h6;obtain⟨rfl,h7,h8⟩:=h6;exact heap0 (v:=.c u) (by simp only[opE,QY Hr hL hv,QY Hr hL hi,indexAddrS_ok hty h5,AD,SV.XW]) h7 h8
  ·cases h
 ·
  split at h
  ·rename_i v n hv hi;rw[A2]at h;obtain⟨u,h5,h6⟩:=h;obtain⟨b,u⟩:=u;simp only[A4]at h6;obtain⟨rfl,h7,h8⟩:=h6;exact heap0 (v:=u) (by simp only[opE,QY Hr hL hv,QY Hr hL hi,indexS_ok hty h5,AD]) h7 h8
  ·cases h
 ·
  split at h
  ·rename_i v hv;rw[A2]at h;obtain⟨u,h1,h2⟩:=h;simp only[A4,Ak]at h2;exact heap0 (v:=u) (by simp only[opE,QY Hr hL hv,extractS_ok h1,AD]) h2.1 h2.2
  ·cases h
 ·
  split at h
  ·rename_i vs hvs;rw[A2]at h;obtain⟨x,h1,h2⟩:=h;obtain⟨b,x,A1⟩:=x;simp only[A4]at h2;obtain⟨rfl,rfl,rfl⟩:=h2;obtain⟨v0,τ,h3,h4⟩:=builtinS_ok hty h1;exact⟨_,_,by simp only[opE,Zg Hr hL hvs,h3,AD],h4⟩
  ·cases h
 ·cases h
end
end Go.Abs
