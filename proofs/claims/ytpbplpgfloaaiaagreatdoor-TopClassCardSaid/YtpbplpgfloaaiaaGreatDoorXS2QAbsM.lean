/- A part of the proof. -/
import Derived.Test.YtpbplpgfloaaiaaGreatDoorXS2QAbsL
set_option linter.all false
namespace Go.Abs
variable [Gl]
section
variable {P:Program}{r:QB}{M τ S':QA}{res:Option AV}
def map4{α:Option (Option AV×QA)}{f:Option AV×QA->DR}{x:DR}(h:α.map f=some x):∃a b,α=some (a,b)/\f (a,b)=x:=by rw[WF]at h;obtain⟨⟨a,b⟩,h1,h2⟩:=h;exact⟨a,b,h1,h2⟩
def JH{op:Op}{g:Option (Option AV)}{rs ws:List Nat}(hf:∀M,opE P r M op=g.map λv=>(v,M))(h:(opE P r M op).map (λx=>(x.1,x.2,([]:List Nat),([]:List Nat)))=some (res,S',rs,ws)):
  opE P r M op=some (res,S')/\∃A',opE P r τ op=some (res,A')/\X0 τ A' M S' ws:=by
 obtain⟨a,b,h1,h2⟩:=map4 h;simp only[A0]at h2;obtain⟨rfl,rfl,rfl,rfl⟩:=h2;exact⟨h1,light hf h1⟩
def opD_same0 {op : Op} {rs ws : List Nat} (h : opD P r M op = some (res,S',rs,ws)) (hag : ∀ c ∈ rs,agC τ M c) :
   opE P r M op = some (res,S') /\ ∃ A',opE P r τ op = some (res,A') /\ X0 τ A' M S' ws := by
 cases op with
 | move x => exact JH (g := (ev r x).map some) (λM => by simp only [opE,BN]; rfl) h
 | assign x => exact JH (g := (ev r x).map some) (λM => by simp only [opE,BN]; rfl) h
 | pick c a b =>
   refine JH (g := (opE P r [] (.pick c a b)).map (·.1)) (λM => ?_) h;simp only [opE];generalize ev r c = e
   cases e with
   | none => rfl
   | some e => rcases e with e | e | e <;> try rfl
               cases e <;> try rfl
               rename_i e;cases e <;> try rfl
               simp [BN,BH]
 | build t ps =>refine JH (g := (opE P r [] (.build t ps)).map (·.1)) (λM => ?_) h;simp only [opE];generalize evs r ps.toList = e;cases e <;> simp [BN,BH]
 | nilCheck x =>
   refine JH (g := (opE P r [] (.nilCheck x)).map (·.1)) (λM => ?_) h;simp only [opE];generalize ev r x = e
   cases e with
   | none => rfl
   | some e => rcases e with e | e | e <;> try rfl
               cases e <;> try rfl
               rename_i e;cases e <;> rfl
 | binOp op t x y u =>refine JH (g := (opE P r [] (.binOp op t x y u)).map (·.1)) (λM => ?_) h;simp only [opE];generalize ev r x = e;generalize ev r y = e';cases e <;> cases e' <;> simp [BN,BH]
 | unOp op t x =>refine JH (g := (opE P r [] (.unOp op t x)).map (·.1)) (λM => ?_) h;simp only [opE];generalize ev r x = e;cases e <;> simp [BN,BH]
 | convert s d x =>refine JH (g := (opE P r [] (.convert s d x)).map (·.1)) (λM => ?_) h;simp only [opE];generalize ev r x = e;cases e <;> simp [BN,BH]
 | makeFunc f first caps =>
   cases f with
   | func f =>
     refine JH (g := if first.size = 0 then (match evl r caps.toList with | some vs => (ZP f vs).map some | none => none) else if caps.size = 0 then (match evl r first.toList with | some vs => (Za f vs).map some | none => none) else none) (λM => ?_) h;simp only [opE];generalize evl r caps.toList = e;generalize evl r first.toList = e'
     by_cases hf : first.size = 0
     · rw [AC hf,AC hf]
       cases e <;> simp [BN,BH]
     · rw [AK hf,AK hf]
       by_cases hc : caps.size = 0
       · rw [AC hc,AC hc]
         cases e' <;> simp [BN,BH]
       · rw [AK hc,AK hc]; rfl
   | _ => simp [opD,opE] at h
 | fieldAddr t x f =>refine JH (g := (opE P r [] (.fieldAddr t x f)).map (·.1)) (λM => ?_) h;simp only [opE];generalize ev r x = e;cases e <;> simp [BN,BH]
 | field t x f =>refine JH (g := (opE P r [] (.field t x f)).map (·.1)) (λM => ?_) h;simp only [opE];generalize ev r x = e;cases e <;> simp [BN,BH]
 | indexAddr t x i =>refine JH (g := (opE P r [] (.indexAddr t x i)).map (·.1)) (λM => ?_) h;simp only [opE];generalize ev r x = e;generalize ev r i = e';cases e <;> cases e' <;> simp [BN,BH]
 | index t x i =>refine JH (g := (opE P r [] (.index t x i)).map (·.1)) (λM => ?_) h;simp only [opE];generalize ev r x = e;generalize ev r i = e';cases e <;> cases e' <;> simp [BN,BH]
 | extract x i =>refine JH (g := (opE P r [] (.extract x i)).map (·.1)) (λM => ?_) h;simp only [opE];generalize ev r x = e;cases e <;> simp [BN,BH]
 | load t a =>
   obtain ⟨a',b',h1,h2⟩ := map4 h;simp only [A0] at h2;obtain ⟨rfl,rfl,rfl,rfl⟩ := h2;refine ⟨h1,?_⟩;simp only [opE] at h1 ⊢
   cases ht : tinf P t with
   | none => rw [ht] at h1; simp at h1
   | some i =>
     cases hv : ev r a with
     | none => rw [ht,hv] at h1; simp at h1
     | some v =>rw [ht,hv] at h1;simp only at h1 ⊢;rw [hv] at hag;rw [loadE_congr hag];rw [WF] at h1;obtain ⟨y,h3,h4⟩ := h1;simp only [A0] at h4;obtain ⟨rfl,rfl⟩ := h4;exact ⟨τ,by rw [h3]; rfl,X0.none⟩
 | store t a x =>
   obtain ⟨a',b',h1,h2⟩ := map4 h;simp only [A0] at h2;obtain ⟨rfl,rfl,rfl,rfl⟩ := h2;refine ⟨h1,?_⟩;simp only [opE] at h1 ⊢
   cases ht : tinf P t with
   | none => rw [ht] at h1; simp at h1
   | some i =>
     cases hv : ev r a with
     | none => rw [ht,hv] at h1; simp at h1
     | some v =>
       cases hu : ev r x with
       | none => rw [ht,hv,hu] at h1; simp at h1
       | some u =>rw [ht,hv,hu] at h1;simp only at h1 ⊢;rw [hv] at hag;rw [WF] at h1;obtain ⟨y,h3,h4⟩ := h1;simp only [A0] at h4;obtain ⟨rfl,rfl⟩ := h4;obtain ⟨A',h5,h6⟩ := storeE_same h3 hag;exact ⟨A',by rw [h5]; rfl,h6⟩
 | alloc e =>
   refine K9 h rfl hag λres S' h1 => .inr ?_;simp only [opE] at h1 ⊢;split at h1
   · split at h1
     · injection h1 with h1
       simp only [Ko,A0] at h1;obtain ⟨rfl,rfl⟩ := h1;exact ⟨by simp,fun τ hl => ⟨_,by simp only [Ko,hl],X0.push _ hl⟩⟩
     · cases h1
   · cases h1
 | box t x =>
   refine K9 h rfl hag λres S' h1 => .inr ?_;simp only [opE] at h1 ⊢;split at h1
   · split at h1
     · rename_i v hv hfl
       injection h1 with h1;simp only [Ko,A0] at h1;obtain ⟨rfl,rfl⟩ := h1;exact ⟨by simp,fun τ hl => ⟨_,by rw [AC hfl]; simp only [Ko,hl],X0.push _ hl⟩⟩
     · cases h1
   · cases h1
 | makeSlice t l c =>
   refine K9 h rfl hag λres S' h1 => .inr ?_;simp only [opE] at h1 ⊢;split at h1
   · rw [WF] at h1
     obtain ⟨⟨y,y'⟩,h3,h4⟩ := h1;simp only [A0] at h4;obtain ⟨rfl,rfl⟩ := h4;refine ⟨?_,fun τ hl => ?_⟩
     · obtain ⟨h5,_⟩ := Ye h3 (τ := M) rfl
       omega
     · obtain ⟨_,A',h5,h6⟩ := Ye h3 hl
       exact ⟨A',by rw [h5]; rfl,h6⟩
   · cases h1
 | buildSlice t n ps =>
   refine K9 h rfl hag λres S' h1 => ?_;simp only [opE] at h1 ⊢;split at h1
   · rw [WF] at h1
     obtain ⟨⟨y,y'⟩,h3,h4⟩ := h1;simp only [A0] at h4;obtain ⟨rfl,rfl⟩ := h4;rcases buildSliceE_same h3 with ⟨rfl,h5⟩ | ⟨h4,h5⟩
     · exact .inl ⟨rfl,fun τ => by rw [h5]; rfl⟩
     · exact .inr ⟨h4,fun τ hl => by
         obtain ⟨A',h6,h7⟩ := h5 τ hl;exact ⟨A',by rw [h6]; rfl,h7⟩⟩
   · cases h1
 | slice t x l hi m =>
   obtain ⟨a',b',h1,h2⟩ := map4 h;simp only [A0] at h2;obtain ⟨rfl,rfl,rfl,rfl⟩ := h2;refine ⟨h1,?_⟩;simp only [opE] at h1 ⊢
   cases hv : ev r x with
   | none => rw [hv] at h1; simp at h1
   | some v =>
     rw [hv] at h1 hag;split at h1
     · rename_i v' l' h' m' e1 e2 e3 e4
       injection e1 with e1;subst e1;try simp only [e2,e3,e4]
       rw [sliceE_congr hag];rw [WF] at h1;obtain ⟨y,h3,h4⟩ := h1;simp only [A0] at h4;obtain ⟨rfl,rfl⟩ := h4;exact ⟨τ,by rw [h3]; rfl,X0.none⟩
     · cases h1
 | call c =>
   obtain ⟨callee,args,ts⟩ := c
   cases callee with
   | builtin b =>
     cases b with
     | append =>
       simp only [opD] at h;split at h
       · rename_i s v hargs
         obtain ⟨a',b',h1,h2⟩ := map4 h;simp only [opE,hargs,evl] at h1 ⊢
         cases hs : ev r s with
         | none => rw [hs] at h1; simp at h1
         | some s' =>
           cases hv : ev r v with
           | none => rw [hs,hv] at h1; simp at h1
           | some v' =>
             rw [hs,hv] at h1;simp only [Qu] at h1 ⊢;have key : ∀ t,Jk P M t s' v' = some (a'.getD (.c (.t .junk)),b') -> a' = some (a'.getD (.c (.t .junk))) -> opE P r M (.call ⟨.builtin .append,args,ts⟩) = some (a',b') ->
                 (∀ τ,opE P r τ (.call ⟨.builtin .append,args,ts⟩) = (Jk P τ t s' v').map λx => (some x.1,x.2)) ->
                 (opE P r M (.call ⟨.builtin .append,args,ts⟩) = some (res,S') /\ ∃ A',opE P r τ (.call ⟨.builtin .append,args,ts⟩) = some (res,A') /\ X0 τ A' M S' ws) := by
               intro t hap ha hop hall;simp only [hs,hv] at h2;split at h2
               · rename_i hlen
                 simp only [A0] at h2;obtain ⟨rfl,rfl,rfl,rfl⟩ := h2;refine ⟨hop,?_⟩;rcases appendE_same hap (τ := τ) (λc hc => hag c (B0 _ hc)) (λc hc => hag c (B7 _ hc)) with ⟨_,A',h5,h6⟩ | ⟨h5,_⟩
                 · exact ⟨A',by rw [hall,h5]; simp only [AI]; rw [<- ha],h6⟩
                 · exact absurd hlen h5
               · rename_i hlen
                 simp only [A0] at h2;obtain ⟨rfl,rfl,rfl,rfl⟩ := h2;refine ⟨hop,?_⟩;rcases appendE_same hap (τ := τ) (λc hc => hag c (.tail _ (B0 _ hc))) (λc hc => hag c (.tail _ (B7 _ hc))) with ⟨h5,_⟩ | ⟨_,h5⟩
                 · exact absurd h5 hlen
                 · obtain ⟨A',h6,h7⟩ := h5 (hag 0 (by simp))
                   exact ⟨A',by rw [hall,h6]; simp only [AI]; rw [<- ha],h7⟩
             rw [WF] at h1;obtain ⟨⟨y,y'⟩,h3,h4⟩ := h1;simp only [A0] at h4;obtain ⟨rfl,rfl⟩ := h4;split at h3
             · rename_i t u e1 e2
               split at h3
               · rename_i i e3
                 have fin : ∀ (hk : (match i.kind with | .slice _ => Jk P M t s' v' | .string => Jk P M t s' v' | _ => none) = some (y,y')),True := λ_ => trivial;split at h3
                 · rename_i e e4
                   have := key t h3 rfl (by simp only [opE,hargs,evl,hs,hv,Qu,e1,e2,e3,e4,h3,AI]) (fun τ => by simp only [opE,hargs,evl,hs,hv,Qu,e1,e2,e3,e4]);simpa only [opE,hargs,evl,hs,hv,Qu,e1,e2,e3,e4] using this
                 · rename_i e4
                   have := key t h3 rfl (by simp only [opE,hargs,evl,hs,hv,Qu,e1,e2,e3,e4,h3,AI]) (fun τ => by simp only [opE,hargs,evl,hs,hv,Qu,e1,e2,e3,e4]);simpa only [opE,hargs,evl,hs,hv,Qu,e1,e2,e3,e4] using this
                 · cases h3
               · cases h3
             · cases h3
       · cases h
     | cap =>
       simp only [opD] at h;split at h
       · rename_i s hargs
         obtain ⟨a',b',h1,h2⟩ := map4 h;simp only [A0] at h2;obtain ⟨rfl,rfl,rfl,rfl⟩ := h2;refine ⟨h1,?_⟩;simp only [opE,hargs,evl] at h1 ⊢
         cases hs : ev r s with
         | none => rw [hs] at h1; simp at h1
         | some s' =>
           rw [hs] at h1 hag;simp only [Qu] at h1 ⊢;split at h1
           · rename_i t e1
             try simp only [e1]
             split at h1
             · rename_i i e2
               try simp only [e2]
               split at h1
               · rename_i e e3
                 try simp only [e3]
                 split at h1
                 · rename_i p n c
                   rw [XM (hag (p.id + 1) (by simp [JN]))];try simp only
                   split at h1
                   · rename_i o ho
                     simp only [AI,Kn,A0] at h1;obtain ⟨rfl,rfl⟩ := h1;exact ⟨τ,by simp only [ho,AI],X0.none⟩
                   · simp at h1
                 · simp only [AI,Kn,A0] at h1
                   obtain ⟨rfl,rfl⟩ := h1;exact ⟨τ,rfl,X0.none⟩
                 · simp at h1
               · simp at h1
             · simp at h1
           · simp at h1
       · cases h
     | copy =>
       simp only [opD] at h;split at h
       · rename_i s v hargs
         obtain ⟨a',b',h1,h2⟩ := map4 h;simp only [A0] at h2;obtain ⟨rfl,rfl,rfl,rfl⟩ := h2;refine ⟨h1,?_⟩;simp only [opE,hargs,evl] at h1 ⊢
         cases hs : ev r s with
         | none => rw [hs] at h1; simp at h1
         | some s' =>
           cases hv : ev r v with
           | none => rw [hs,hv] at h1; simp at h1
           | some v' =>
             rw [hs,hv] at h1 hag;simp only [Qu] at h1 ⊢;rw [WF] at h1;obtain ⟨⟨y,y'⟩,h3,h4⟩ := h1;simp only [A0] at h4;obtain ⟨rfl,rfl⟩ := h4;split at h3
             · rename_i t e1
               obtain ⟨A',h5,h6⟩ := copyE_same h3 (τ := τ) (λc hc => hag c (B0 _ hc)) (λc hc => hag c (B7 _ hc));exact ⟨A',by simp only [e1,h5,AI],h6⟩
             · cases h3
       · cases h
     | len =>
       refine JH (g := (opE P r [] (.call ⟨.builtin .len,args,ts⟩)).map (·.1)) (λM => ?_) h;simp only [opE];generalize evl r args.toList = e;rcases e with _ | (_ | ⟨x,_ | _⟩)
       · rfl
       · rfl
       · simp only [Qu]
         generalize ts[0]? = t
         cases t with
         | none => rfl
         | some t =>
           simp only;generalize tinf P t = i
           cases i with
           | none => rfl
           | some i =>
             simp only;generalize i.kind = k;cases k <;> try rfl
             all_goals
               rcases x with x | x | x <;> try rfl
               cases x <;> try rfl
               rename_i x;cases x <;> rfl
       · rfl
     | min =>refine JH (g := match evl r args.toList with | some vs => (Zp false vs).map some | none => none) (λM => ?_) h;simp only [opE];generalize evl r args.toList = e;cases e <;> simp [Qu,BN,BH]
     | max =>refine JH (g := match evl r args.toList with | some vs => (Zp true vs).map some | none => none) (λM => ?_) h;simp only [opE];generalize evl r args.toList = e;cases e <;> simp [Qu,BN,BH]
     | _ =>
       exfalso;obtain ⟨a',b',h1,h2⟩ := map4 h;simp only [opE] at h1;split at h1
       · simp [Qu] at h1
       · cases h1
   | _ => simp [opD,opE] at h
 | lookup t x k c =>
   cases c with
   | true =>refine JH (g := (opE P r [] (.lookup t x k true)).map (·.1)) (λM => ?_) h;simp only [opE];generalize ev r x = e;generalize ev r k = e';cases e <;> cases e' <;> simp [BN,BH]
   | false => simp [opD,opE] at h
 | _ => simp [opD,opE] at h
def opD_same{op:Op}{rs ws:List Nat}{r':QB}(h:opD P r M op=some (res,S',rs,ws))(hr:∀x∈op.operands,ev r' x=ev r x)(hag:∀c∈rs,agC τ M c):
  opE P r M op=some (res,S')/\∃A',opE P r' τ op=some (res,A')/\X0 τ A' M S' ws:=by
 rw[opE_regs hr];exact opD_same0 h hag
end
end Go.Abs
