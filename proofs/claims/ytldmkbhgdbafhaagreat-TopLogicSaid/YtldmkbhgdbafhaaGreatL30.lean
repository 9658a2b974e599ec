import Derived.Test.YtldmkbhgdbafhaaGreatL07
namespace Go.Proofs.YtldmkbhgdbafhaaGreat
open Go.RowKit
set_option linter.unusedSimpArgs false
set_option linter.unusedVariables false
set_option maxRecDepth 100000
set_option maxHeartbeats 64000000
section
theorem pF:(Tryz.prog.info? 3).map (fun i=>(i.zero,i.size,i.bytes))=some (some (I 0),1,8):=by kernel_rfl
theorem tM:(Tryz.prog.info? 168).map (fun i=>(i.zero,i.size,i.bytes))=some (some (.agg #[I 0,.slice none 0 0,I 0,I 0]),4,48):=by kernel_rfl
theorem tL:(Tryz.prog.info? 173).map (fun i=>(i.zero,i.size,i.bytes))=some (some (.agg #[I 0,.slice none 0 0,.bool false]),3,40):=by kernel_rfl
theorem vW:(Tryz.prog.info? 40).map (fun i=>(i.zero,i.size,i.bytes))=some (some (.agg #[I 0,I 0,.bool false,.string ⟨#[]⟩]),4,40):=by kernel_rfl
theorem nO:(Tryz.prog.info? 181).map (fun i=>(i.zero,i.size,i.bytes))=some (some (.agg #[I 0,I 0]),2,16):=by kernel_rfl
def Cof (B0:Nat) (w:World) (g:Nat):Prop:=B0<=g/\∃cs,Blk w g 215 cs
theorem Cof.keep {B0:Nat} {w w':World} {X:List Nat} {g:Nat} (h:Cof B0 w g) (d:ad X w w') (c:g∉X):Cof B0 w' g:=by
 obtain⟨a,cs,b⟩:=h;exact⟨a,cs,b.keep d c⟩
theorem Blk.ty {w:World} {g:Nat} {t a:TypeId} {cs cs':Array Value} (h:Blk w g t cs) (b:Blk w g a cs'):t=a:=by
 by_cases e:t=a
 ·exact e
 exact absurd rfl (h.ne_ b e)
section
variable {α:Type} {f:α->Tr} {k:Nat} {e:TypeId} {D:Nat->Prop} {B0:Nat} {w w':World} {A:Option Addr} {c:Nat} {L:List α}
theorem af.typ (h:af f k e D B0 w A c L) {g:Nat} (b:(Value.slice A L.length c).ownBlock=some g):B0<=g/\∃cs,Blk w g e cs:=by
 obtain⟨⟨cs,a,_⟩,_,_⟩:=h;exact jy a b
theorem af.cof {X:List Nat} (h:af f k e (Cof B0 w) B0 w A c L) (j:ad X w w') (d:∀y∈X,(Value.slice A L.length c).ownBlock≠some y/\∀cs,¬Blk w y 215 cs):af f k e (Cof B0 w') B0 w' A c L:=by
 obtain⟨⟨cs,m,n⟩,p,q⟩:=h;refine⟨⟨cs,dE m j (fun g r l=>(d g l).1 r),(n.keep j (fun y s b=>?_)).mono (fun g _ b=>⟨b.1.keep j (fun l=>?_),b.2⟩)⟩,p,q⟩
 ·obtain⟨⟨_,cs,i⟩,_⟩:=b;exact(d y s).2 cs i
 obtain⟨_,cs,i⟩:=b.1;exact(d g l).2 cs i
end
section
variable {P:Program} {w:World} {o:Oper} {a:Act} {Q:Exit->Act->World->Prop}
theorem bW {K:Act->World->Prop} (x y:Operand) (t:TypeId) (f:o.op=.call { callee:=.builtin .append,args:=#[x,y],argTypes:=#[t,t] }) {v u:Value} (g:a.eval x=v) (h:a.eval y=u) {n:Nat} {R:Option Addr->Nat->World->Prop}
 (d:∃b c w',(Builtin.append_ #[t,t] o.type #[v,u]).run P w=.ok (.slice b n c) w'/\R b c w') (e:∀b c w',Z (R b c w')->K (a.put o.dst (.slice b n c)) w'):Oper.wp P o a w K Q:=by
  obtain⟨b,c,w',d,i⟩:=d;unfold Oper.wp execOp;simp only[f,resolve,invoke,builtin,DM,DZ,DH,Eb,D1,Er,g,h,d];exact e b c w' (bZ i)
end
def KT (T:List Nat) (w w':World):Prop:=∃X,ad X w w'/\∀y∈X,∃t cs,t∈T/\Blk w y t cs
section
variable {T U00:List Nat} {w w1 w':World}
theorem KT.of (h:ad [] w w'):KT T w w':=⟨[],h,by simp⟩
theorem KT.mono (h:KT T w w') (e:∀t∈T,t∈U00):KT U00 w w':=by
 obtain⟨X,a,b⟩:=h;exact⟨X,a,fun y f=>by obtain⟨t,cs,c,d⟩:=b y f;exact⟨t,cs,e t c,d⟩⟩
theorem KT.trans (h:KT T w w1) (k:KT T w1 w'):KT T w w':=by
 obtain⟨X,d,e⟩:=h;obtain⟨Y,j,l⟩:=k
 classical
 refine⟨X++Y.filter (fun y=>decide (y<w.heap.size) && decide (y∉X)),((d.mono (Y:=X++Y) (fun y a=>.inl (by simp[a]))).trans (j.mono (Y:=X++Y) (fun y a=>.inl (by simp[a])))).mono (fun y a=>?_),fun y a=>?_⟩
 ·by_cases i:y<w.heap.size
  ·left;by_cases b:y∈X
   ·simp[b]
   have c:y∈Y:=by simpa [b] using a
   simp[b,i,c]
  right;omega
 rcases CX.1 a with a | a
 ·exact e y a
 rw[List.mem_filter] at a;simp only[Bool.and_eq_true,decide_eq_true_eq] at a;obtain⟨t,cs,f,g⟩:=l y a.1;exact⟨t,cs,f,(d.block y a.2.1 a.2.2).symm.trans g⟩
theorem KT.blk (h:KT T w w') {g:Nat} {u:TypeId} {cs:Array Value} (a:Blk w g u cs) (i:u∉T):Blk w' g u cs:=by
 obtain⟨X,b,c⟩:=h;refine a.keep b (fun f=>?_);obtain⟨t,cs',d,e⟩:=c g f;exact i (by rw[a.ty e];exact d)
theorem KT.at_ (h:KT T w w') {g:Nat} (e:g<w.heap.size) (i:∀t cs,t∈T->¬Blk w g t cs):w'.heap[g]? =w.heap[g]?:=by
 obtain⟨X,a,b⟩:=h;refine a.block g e (fun f=>?_);obtain⟨t,cs',c,d⟩:=b g f;exact i t cs' c d
theorem KT.size (h:KT T w w'):w.heap.size<=w'.heap.size:=by
 obtain⟨X,a,_⟩:=h;exact a.size
theorem KT.set {b i:Nat} {t:TypeId} {cs:Array Value} (a:Blk w b t cs) (c:t∈T) (v:Value):KT T w (w.setCell (U b i) v):=
 ⟨[b],(ad.refl [b] w).setCell (.inl (by simp)) v,fun y d=>by rw[CZ.1 d];exact⟨t,cs,c,a⟩⟩
end
structure BR (W0 w:World) (c:Cla) (s:Sv):Prop where
 kp:ad [] W0 w
 g0:af a8 1 3 (Cof W0.heap.size w) W0.heap.size w s.A0 s.c0 c.nul
 g1:af a8 1 3 (Cof W0.heap.size w) W0.heap.size w s.A1 s.c1 c.nn
 g2:af kQ 4 168 (Cof W0.heap.size w) W0.heap.size w s.A2 s.c2 c.ax
 g3:af mr 3 173 (Cof W0.heap.size w) W0.heap.size w s.A3 s.c3 c.is
 g4:af lW 4 40 (Cof W0.heap.size w) W0.heap.size w s.A4 s.c4 c.ts
 g5:af bh 2 181 (Cof W0.heap.size w) W0.heap.size w s.A5 s.c5 c.sm
 g6:af bh 2 181 (Cof W0.heap.size w) W0.heap.size w s.A6 s.c6 c.df
 n01:∀g,(Value.slice s.A0 c.nul.length s.c0).ownBlock=some g->(Value.slice s.A1 c.nn.length s.c1).ownBlock≠some g
 n56:∀g,(Value.slice s.A5 c.sm.length s.c5).ownBlock=some g->(Value.slice s.A6 c.df.length s.c6).ownBlock≠some g
section
variable {W0 w w':World} {c:Cla} {s:Sv}
theorem BR.keep {X:List Nat} (h:BR W0 w c s) (j:ad X w w') (d:∀y∈X,W0.heap.size<=y/\∀t cs,Blk w y t cs->t∉([3,168,173,40,181,215]:List Nat)):BR W0 w' c s:=by
 have a:∀ {α:Type} {f:α->Tr} {k:Nat} {e:TypeId} {A:Option Addr} {m:Nat} {L:List α},e∈([3,168,173,40,181,215]:List Nat)->af f k e (Cof W0.heap.size w) W0.heap.size w A m L->af f k e (Cof W0.heap.size w') W0.heap.size w' A m L:=by
  intro α f k e A m L l i;refine i.cof j (fun y b=>⟨fun n=>?_,fun cs g=>(d y b).2 _ cs g (by decide)⟩);obtain⟨_,cs,g⟩:=i.typ n;exact(d y b).2 _ cs g l
 exact⟨(h.kp.nil.trans j).mono (fun y b=>.inr (d y b).1),a (by decide) h.g0,a (by decide) h.g1,a (by decide) h.g2,a (by decide) h.g3,a (by decide) h.g4,a (by decide) h.g5,a (by decide) h.g6,h.n01,h.n56⟩
theorem BR.keep0 (h:BR W0 w c s) (a:ad [] w w'):BR W0 w' c s:=h.keep a (by simp)
theorem BR.set {b i:Nat} {t:TypeId} {cs:Array Value} (h:BR W0 w c s) (e:Blk w b t cs) (f:t∉([3,168,173,40,181,215]:List Nat)) (d:W0.heap.size<=b) (v:Value):BR W0 (w.setCell (U b i) v) c s:=
 h.keep (X:=[b]) ((ad.refl [b] w).setCell (.inl (by simp)) v) (fun y g=>by
  rw[CZ.1 g];exact⟨d,fun j cs' a=>by rw[<-e.ty a];exact f⟩)
theorem BR.nil (w:World):BR w w cl0 sv0:=⟨ad.refl _ _,af.nil,af.nil,af.nil,af.nil,af.nil,af.nil,af.nil,fun g h=>by simp[sv0,Value.ownBlock] at h,fun g h=>by simp[sv0,Value.ownBlock] at h⟩
theorem BR.cla (h:BR W0 w c s):er w (fun g=>W0.heap.size<=g) c s:=by
 have a:∀ {α:Type} {f:α->Tr} {k:Nat} {e:TypeId} {A:Option Addr} {m:Nat} {L:List α},af f k e (Cof W0.heap.size w) W0.heap.size w A m L->(L.length<=m/\m<=maxLen)/\ag f w (fun g=>W0.heap.size<=g) A L:=fun b=>
  ⟨⟨b.mc,b.cm⟩,b.rows.mono (fun g _ h=>h.elim (fun h=>h.1) id)⟩
 exact⟨(a h.g0).1,(a h.g0).2,(a h.g1).1,(a h.g1).2,(a h.g2).1,(a h.g2).2,(a h.g3).1,(a h.g3).2,(a h.g4).1,(a h.g4).2,(a h.g5).1,(a h.g5).2,(a h.g6).1,(a h.g6).2⟩
end
section
variable {α:Type} {f:α->Tr} {k:Nat} {e:TypeId} {w W0:World}
theorem dp {P:Program} (t T:Nat) (bytes:Nat) (z:Value) (ht:P.underlying t=some (.slice e)) (b:(P.info? e).map (fun i=>(i.zero,i.size,i.bytes))=some (some z,k,bytes))
 (J:z.cells.size=k) (E:0<k) {A:Option Addr} {c:Nat} {L:List α} (M:List α) (O:af f k e (Cof W0.heap.size w) W0.heap.size w A c L) (l:ad [] W0 w) (Y:e≠215)
 (B:Option Addr) (m d:Nat) (F:m=M.length) (a:List Value) (hl:a.length=m*k) (X:cH w B m a) (Q:Is w (Cof W0.heap.size w) (cat f M) a) (x:(L.length+m)*bytes<=140737488355328) (v:L.length+m<=maxLen):
 ∃n o w',(Builtin.append_ #[t,t] T #[.slice A L.length c,.slice B m d]).run P w=.ok (.slice n (L.length+m) o) w'/\af f k e (Cof W0.heap.size w') W0.heap.size w' n o (L++M)/\ad [] W0 w'/\w.grownBy w' (Value.slice A L.length c).ownBlock/\
  ((Value.slice n (L.length+m) o).ownBlock=(Value.slice A L.length c).ownBlock\/(Value.slice n (L.length+m) o).ownBlock=some w.heap.size):=by
 subst F
 have r:∀g,(Value.slice A L.length c).ownBlock=some g->∀cs,¬Blk w g 215 cs:=fun g u cs x=>by
  obtain⟨_,cs',y⟩:=O.typ u;exact Y (y.ty x)
 obtain⟨⟨cs,N,W⟩,h3,h4⟩:=O
 cases H:P.info? e with
 | none=>simp[H] at b
 | some i=>
  simp only[H,EM,Option.some.injEq,Prod.mk.injEq] at b;obtain⟨hz,hs,C⟩:=b;obtain⟨v',w',hr,R,K,q3,S⟩:=dg (P:=P) (w:=w) t T W0.heap.size e i z k bytes ht H hz hs C J E _ L.length cs N B M.length d a hl X Q.one v x l.size;obtain⟨n,o,rfl,m1,m2⟩:=bS R;have j:(L++M).length=L.length+M.length:=by simp
  have p:ad (Value.slice A L.length c).ownBlock.toList w w':=ad.grown K (fun k hk=>by rw[hk];simp);refine⟨n,o,w',hr,⟨⟨cs++a,by rw[j];exact R,?_⟩,by rw[j];exact m1,m2⟩,?_,K,S⟩
  ·rw[j,eX];refine(jD (D:=Cof W0.heap.size w) W (Q.mono (fun g _ h=>⟨h,fun ho=>r g ho _ h.2.choose_spec⟩)) K S).mono (fun g _ h=>⟨h.1.keep p (fun v=>?_),h.2⟩);rw[D8] at v;exact r g v _ h.1.2.choose_spec
  refine⟨p.os.trans l.os,p.tape.trans l.tape,p.output.trans l.output,Dc l.size p.size,fun g u hx=>(p.block g (Dr u l.size) (fun q=>?_)).trans (l.block g u hx)⟩;rw[D8] at q;have:=(cz N q).1;omega
end
section
variable {W0 w:World} {c:Cla} {s:Sv}
theorem sO (h:BR W0 w c s) (C:Nat) (M:List Int) (B:Option Addr) (m d:Nat) (t:m=M.length) (j:List Value) (J:j.length=m*1) (D:cH w B m j) (E:Is w (Cof W0.heap.size w) (cat a8 M) j) (o:c.nul.length+m<=1000000000):
 ∃q r w',(Builtin.append_ #[108,108] C #[.slice s.A0 c.nul.length s.c0,.slice B m d]).run Tryz.prog w=.ok (.slice q (c.nul.length+m) r) w'/\BR W0 w' { c with nul:=c.nul++M } { s with A0:=q,c0:=r }/\KT [3] w w'/\ad (Value.slice s.A0 c.nul.length s.c0).ownBlock.toList w w':=by
  obtain⟨q,r,w',K,N,O,Q,u⟩:=dp (P:=Tryz.prog) (f:=a8) (k:=1) (e:=3) 108 C 8 (I 0) Tryz.underlying108 pF rfl (by decide) M h.g0 h.kp (by decide) B m d t j J D E (by omega) (by unfold maxLen;omega);have v:ad (Value.slice s.A0 c.nul.length s.c0).ownBlock.toList w w':=ad.grown Q (fun k H=>by rw[H];simp);have i:∀g,(Value.slice s.A0 c.nul.length s.c0).ownBlock=some g->∃cs,Blk w g 3 cs:=fun g p=>(h.g0.typ p).2;have l:∀ {α:Type} {f:α->Tr} {k:Nat} {e:TypeId} {A:Option Addr} {m:Nat} {L:List α},e≠3->af f k e (Cof W0.heap.size w) W0.heap.size w A m L->af f k e (Cof W0.heap.size w') W0.heap.size w' A m L:=by
   intro α f k e A m L F p;refine p.cof v (fun y a=>⟨fun n=>?_,fun cs o=>?_⟩)
   ·rw[D8] at a;obtain⟨_,cs,o⟩:=p.typ n;obtain⟨cs',b⟩:=i y a;exact F (o.ty b)
   rw[D8] at a;obtain⟨cs',b⟩:=i y a;exact absurd (o.ty b) (by decide)
  have z:af a8 1 3 (Cof W0.heap.size w') W0.heap.size w' s.A1 s.c1 c.nn:=h.g1.cof v (fun y a=>⟨by
   rw[D8] at a;exact fun n=>h.n01 y a n,fun cs o=>by
   rw[D8] at a;obtain⟨cs',b⟩:=i y a;exact absurd (o.ty b) (by decide)⟩)
  have x:∀y,(Value.slice q (c.nul.length+m) r).ownBlock=some y->(Value.slice s.A1 c.nn.length s.c1).ownBlock≠some y:=fun y a n=>by
   rcases u with u | u
   ·rw[u] at a;exact(fun n=>h.n01 y a n) n
   rw[u] at a;injection a with a;have:=(h.g1.own n).2;omega
  refine⟨q,r,w',K,⟨O,N,z,l (by decide) h.g2,l (by decide) h.g3,l (by decide) h.g4,l (by decide) h.g5,l (by decide) h.g6,fun g p=>x g (by simpa [CU,<-t] using p),h.n56⟩,⟨_,v,fun y a=>?_⟩,v⟩;obtain⟨cs',b⟩:=i y (D8.1 a);exact⟨_,cs',CZ.2 rfl,b⟩
theorem fu (h:BR W0 w c s) (C:Nat) (M:List Int) (B:Option Addr) (m d:Nat) (t:m=M.length) (j:List Value) (J:j.length=m*1) (D:cH w B m j) (E:Is w (Cof W0.heap.size w) (cat a8 M) j) (o:c.nn.length+m<=1000000000):
 ∃q r w',(Builtin.append_ #[108,108] C #[.slice s.A1 c.nn.length s.c1,.slice B m d]).run Tryz.prog w=.ok (.slice q (c.nn.length+m) r) w'/\BR W0 w' { c with nn:=c.nn++M } { s with A1:=q,c1:=r }/\KT [3] w w'/\ad (Value.slice s.A1 c.nn.length s.c1).ownBlock.toList w w':=by
  obtain⟨q,r,w',K,N,O,Q,u⟩:=dp (P:=Tryz.prog) (f:=a8) (k:=1) (e:=3) 108 C 8 (I 0) Tryz.underlying108 pF rfl (by decide) M h.g1 h.kp (by decide) B m d t j J D E (by omega) (by unfold maxLen;omega);have v:ad (Value.slice s.A1 c.nn.length s.c1).ownBlock.toList w w':=ad.grown Q (fun k H=>by rw[H];simp);have i:∀g,(Value.slice s.A1 c.nn.length s.c1).ownBlock=some g->∃cs,Blk w g 3 cs:=fun g p=>(h.g1.typ p).2;have l:∀ {α:Type} {f:α->Tr} {k:Nat} {e:TypeId} {A:Option Addr} {m:Nat} {L:List α},e≠3->af f k e (Cof W0.heap.size w) W0.heap.size w A m L->af f k e (Cof W0.heap.size w') W0.heap.size w' A m L:=by
   intro α f k e A m L F p;refine p.cof v (fun y a=>⟨fun n=>?_,fun cs o=>?_⟩)
   ·rw[D8] at a;obtain⟨_,cs,o⟩:=p.typ n;obtain⟨cs',b⟩:=i y a;exact F (o.ty b)
   rw[D8] at a;obtain⟨cs',b⟩:=i y a;exact absurd (o.ty b) (by decide)
  have z:af a8 1 3 (Cof W0.heap.size w') W0.heap.size w' s.A0 s.c0 c.nul:=h.g0.cof v (fun y a=>⟨by
   rw[D8] at a;exact fun n=>h.n01 y n a,fun cs o=>by
   rw[D8] at a;obtain⟨cs',b⟩:=i y a;exact absurd (o.ty b) (by decide)⟩)
  have x:∀y,(Value.slice q (c.nn.length+m) r).ownBlock=some y->(Value.slice s.A0 c.nul.length s.c0).ownBlock≠some y:=fun y a n=>by
   rcases u with u | u
   ·rw[u] at a;exact(fun n=>h.n01 y n a) n
   rw[u] at a;injection a with a;have:=(h.g0.own n).2;omega
  refine⟨q,r,w',K,⟨O,z,N,l (by decide) h.g2,l (by decide) h.g3,l (by decide) h.g4,l (by decide) h.g5,l (by decide) h.g6,fun g p n=>x g (by simpa [CU,<-t] using n) p,h.n56⟩,⟨_,v,fun y a=>?_⟩,v⟩;obtain⟨cs',b⟩:=i y (D8.1 a);exact⟨_,cs',CZ.2 rfl,b⟩
theorem sN (h:BR W0 w c s) (u:Nat) (M:List Ax) (B:Option Addr) (m d:Nat) (r:m=M.length) (a:List Value) (D:a.length=m*4) (v:cH w B m a) (x:Is w (Cof W0.heap.size w) (cat kQ M) a) (p:c.ax.length+m<=1000000000):
 ∃n o w',(Builtin.append_ #[109,109] u #[.slice s.A2 c.ax.length s.c2,.slice B m d]).run Tryz.prog w=.ok (.slice n (c.ax.length+m) o) w'/\BR W0 w' { c with ax:=c.ax++M } { s with A2:=n,c2:=o }/\KT [168] w w'/\ad (Value.slice s.A2 c.ax.length s.c2).ownBlock.toList w w':=by
  obtain⟨n,o,w',F,H,J,K,N⟩:=dp (P:=Tryz.prog) (f:=kQ) (k:=4) (e:=168) 109 u 48 (.agg #[I 0,.slice none 0 0,I 0,I 0]) Tryz.underlying109 tM rfl (by decide) M h.g2 h.kp (by decide) B m d r a D v x (by omega) (by unfold maxLen;omega);have t:ad (Value.slice s.A2 c.ax.length s.c2).ownBlock.toList w w':=ad.grown K (fun k C=>by rw[C];simp);have j:∀g,(Value.slice s.A2 c.ax.length s.c2).ownBlock=some g->∃cs,Blk w g 168 cs:=fun g q=>(h.g2.typ q).2;have b:∀ {α:Type} {f:α->Tr} {k:Nat} {e:TypeId} {A:Option Addr} {m:Nat} {L:List α},e≠168->af f k e (Cof W0.heap.size w) W0.heap.size w A m L->af f k e (Cof W0.heap.size w') W0.heap.size w' A m L:=by
   intro α f k e A m L z q;refine q.cof t (fun y l=>⟨fun E=>?_,fun cs p=>?_⟩)
   ·rw[D8] at l;obtain⟨_,cs,p⟩:=q.typ E;obtain⟨cs',i⟩:=j y l;exact z (p.ty i)
   rw[D8] at l;obtain⟨cs',i⟩:=j y l;exact absurd (p.ty i) (by decide)
  refine⟨n,o,w',F,⟨J,b (by decide) h.g0,b (by decide) h.g1,H,b (by decide) h.g3,b (by decide) h.g4,b (by decide) h.g5,b (by decide) h.g6,h.n01,h.n56⟩,⟨_,t,fun y l=>?_⟩,t⟩;obtain⟨cs',i⟩:=j y (D8.1 l);exact⟨_,cs',CZ.2 rfl,i⟩
theorem sM (h:BR W0 w c s) (u:Nat) (M:List (Lin×Bool)) (B:Option Addr) (m d:Nat) (r:m=M.length) (a:List Value) (D:a.length=m*3) (v:cH w B m a) (x:Is w (Cof W0.heap.size w) (cat mr M) a) (p:c.is.length+m<=1000000000):
 ∃n o w',(Builtin.append_ #[110,110] u #[.slice s.A3 c.is.length s.c3,.slice B m d]).run Tryz.prog w=.ok (.slice n (c.is.length+m) o) w'/\BR W0 w' { c with is:=c.is++M } { s with A3:=n,c3:=o }/\KT [173] w w'/\ad (Value.slice s.A3 c.is.length s.c3).ownBlock.toList w w':=by
  obtain⟨n,o,w',F,H,J,K,N⟩:=dp (P:=Tryz.prog) (f:=mr) (k:=3) (e:=173) 110 u 40 (.agg #[I 0,.slice none 0 0,.bool false]) Tryz.underlying110 tL rfl (by decide) M h.g3 h.kp (by decide) B m d r a D v x (by omega) (by unfold maxLen;omega);have t:ad (Value.slice s.A3 c.is.length s.c3).ownBlock.toList w w':=ad.grown K (fun k C=>by rw[C];simp);have j:∀g,(Value.slice s.A3 c.is.length s.c3).ownBlock=some g->∃cs,Blk w g 173 cs:=fun g q=>(h.g3.typ q).2;have b:∀ {α:Type} {f:α->Tr} {k:Nat} {e:TypeId} {A:Option Addr} {m:Nat} {L:List α},e≠173->af f k e (Cof W0.heap.size w) W0.heap.size w A m L->af f k e (Cof W0.heap.size w') W0.heap.size w' A m L:=by
   intro α f k e A m L z q;refine q.cof t (fun y l=>⟨fun E=>?_,fun cs p=>?_⟩)
   ·rw[D8] at l;obtain⟨_,cs,p⟩:=q.typ E;obtain⟨cs',i⟩:=j y l;exact z (p.ty i)
   rw[D8] at l;obtain⟨cs',i⟩:=j y l;exact absurd (p.ty i) (by decide)
  refine⟨n,o,w',F,⟨J,b (by decide) h.g0,b (by decide) h.g1,b (by decide) h.g2,H,b (by decide) h.g4,b (by decide) h.g5,b (by decide) h.g6,h.n01,h.n56⟩,⟨_,t,fun y l=>?_⟩,t⟩;obtain⟨cs',i⟩:=j y (D8.1 l);exact⟨_,cs',CZ.2 rfl,i⟩
theorem sL (h:BR W0 w c s) (u:Nat) (M:List Ts) (B:Option Addr) (m d:Nat) (r:m=M.length) (a:List Value) (D:a.length=m*4) (v:cH w B m a) (x:Is w (Cof W0.heap.size w) (cat lW M) a) (p:c.ts.length+m<=1000000000):
 ∃n o w',(Builtin.append_ #[111,111] u #[.slice s.A4 c.ts.length s.c4,.slice B m d]).run Tryz.prog w=.ok (.slice n (c.ts.length+m) o) w'/\BR W0 w' { c with ts:=c.ts++M } { s with A4:=n,c4:=o }/\KT [40] w w'/\ad (Value.slice s.A4 c.ts.length s.c4).ownBlock.toList w w':=by
  obtain⟨n,o,w',F,H,J,K,N⟩:=dp (P:=Tryz.prog) (f:=lW) (k:=4) (e:=40) 111 u 40 (.agg #[I 0,I 0,.bool false,.string ⟨#[]⟩]) Tryz.underlying111 vW rfl (by decide) M h.g4 h.kp (by decide) B m d r a D v x (by omega) (by unfold maxLen;omega);have t:ad (Value.slice s.A4 c.ts.length s.c4).ownBlock.toList w w':=ad.grown K (fun k C=>by rw[C];simp);have j:∀g,(Value.slice s.A4 c.ts.length s.c4).ownBlock=some g->∃cs,Blk w g 40 cs:=fun g q=>(h.g4.typ q).2;have b:∀ {α:Type} {f:α->Tr} {k:Nat} {e:TypeId} {A:Option Addr} {m:Nat} {L:List α},e≠40->af f k e (Cof W0.heap.size w) W0.heap.size w A m L->af f k e (Cof W0.heap.size w') W0.heap.size w' A m L:=by
   intro α f k e A m L z q;refine q.cof t (fun y l=>⟨fun E=>?_,fun cs p=>?_⟩)
   ·rw[D8] at l;obtain⟨_,cs,p⟩:=q.typ E;obtain⟨cs',i⟩:=j y l;exact z (p.ty i)
   rw[D8] at l;obtain⟨cs',i⟩:=j y l;exact absurd (p.ty i) (by decide)
  refine⟨n,o,w',F,⟨J,b (by decide) h.g0,b (by decide) h.g1,b (by decide) h.g2,b (by decide) h.g3,H,b (by decide) h.g5,b (by decide) h.g6,h.n01,h.n56⟩,⟨_,t,fun y l=>?_⟩,t⟩;obtain⟨cs',i⟩:=j y (D8.1 l);exact⟨_,cs',CZ.2 rfl,i⟩
theorem sK (h:BR W0 w c s) (C:Nat) (M:List (Int×Int)) (B:Option Addr) (m d:Nat) (t:m=M.length) (j:List Value) (J:j.length=m*2) (D:cH w B m j) (E:Is w (Cof W0.heap.size w) (cat bh M) j) (o:c.sm.length+m<=1000000000):
 ∃q r w',(Builtin.append_ #[112,112] C #[.slice s.A5 c.sm.length s.c5,.slice B m d]).run Tryz.prog w=.ok (.slice q (c.sm.length+m) r) w'/\BR W0 w' { c with sm:=c.sm++M } { s with A5:=q,c5:=r }/\KT [181] w w'/\ad (Value.slice s.A5 c.sm.length s.c5).ownBlock.toList w w':=by
  obtain⟨q,r,w',K,N,O,Q,u⟩:=dp (P:=Tryz.prog) (f:=bh) (k:=2) (e:=181) 112 C 16 (.agg #[I 0,I 0]) Tryz.underlying112 nO rfl (by decide) M h.g5 h.kp (by decide) B m d t j J D E (by omega) (by unfold maxLen;omega);have v:ad (Value.slice s.A5 c.sm.length s.c5).ownBlock.toList w w':=ad.grown Q (fun k H=>by rw[H];simp);have i:∀g,(Value.slice s.A5 c.sm.length s.c5).ownBlock=some g->∃cs,Blk w g 181 cs:=fun g p=>(h.g5.typ p).2;have l:∀ {α:Type} {f:α->Tr} {k:Nat} {e:TypeId} {A:Option Addr} {m:Nat} {L:List α},e≠181->af f k e (Cof W0.heap.size w) W0.heap.size w A m L->af f k e (Cof W0.heap.size w') W0.heap.size w' A m L:=by
   intro α f k e A m L F p;refine p.cof v (fun y a=>⟨fun n=>?_,fun cs o=>?_⟩)
   ·rw[D8] at a;obtain⟨_,cs,o⟩:=p.typ n;obtain⟨cs',b⟩:=i y a;exact F (o.ty b)
   rw[D8] at a;obtain⟨cs',b⟩:=i y a;exact absurd (o.ty b) (by decide)
  have z:af bh 2 181 (Cof W0.heap.size w') W0.heap.size w' s.A6 s.c6 c.df:=h.g6.cof v (fun y a=>⟨by
   rw[D8] at a;exact fun n=>h.n56 y a n,fun cs o=>by
   rw[D8] at a;obtain⟨cs',b⟩:=i y a;exact absurd (o.ty b) (by decide)⟩)
  have x:∀y,(Value.slice q (c.sm.length+m) r).ownBlock=some y->(Value.slice s.A6 c.df.length s.c6).ownBlock≠some y:=fun y a n=>by
   rcases u with u | u
   ·rw[u] at a;exact(fun n=>h.n56 y a n) n
   rw[u] at a;injection a with a;have:=(h.g6.own n).2;omega
  refine⟨q,r,w',K,⟨O,l (by decide) h.g0,l (by decide) h.g1,l (by decide) h.g2,l (by decide) h.g3,l (by decide) h.g4,N,z,h.n01,fun g p=>x g (by simpa [CU,<-t] using p)⟩,⟨_,v,fun y a=>?_⟩,v⟩;obtain⟨cs',b⟩:=i y (D8.1 a);exact⟨_,cs',CZ.2 rfl,b⟩
theorem sJ (h:BR W0 w c s) (C:Nat) (M:List (Int×Int)) (B:Option Addr) (m d:Nat) (t:m=M.length) (j:List Value) (J:j.length=m*2) (D:cH w B m j) (E:Is w (Cof W0.heap.size w) (cat bh M) j) (o:c.df.length+m<=1000000000):
 ∃q r w',(Builtin.append_ #[112,112] C #[.slice s.A6 c.df.length s.c6,.slice B m d]).run Tryz.prog w=.ok (.slice q (c.df.length+m) r) w'/\BR W0 w' { c with df:=c.df++M } { s with A6:=q,c6:=r }/\KT [181] w w'/\ad (Value.slice s.A6 c.df.length s.c6).ownBlock.toList w w':=by
  obtain⟨q,r,w',K,N,O,Q,u⟩:=dp (P:=Tryz.prog) (f:=bh) (k:=2) (e:=181) 112 C 16 (.agg #[I 0,I 0]) Tryz.underlying112 nO rfl (by decide) M h.g6 h.kp (by decide) B m d t j J D E (by omega) (by unfold maxLen;omega);have v:ad (Value.slice s.A6 c.df.length s.c6).ownBlock.toList w w':=ad.grown Q (fun k H=>by rw[H];simp);have i:∀g,(Value.slice s.A6 c.df.length s.c6).ownBlock=some g->∃cs,Blk w g 181 cs:=fun g p=>(h.g6.typ p).2;have l:∀ {α:Type} {f:α->Tr} {k:Nat} {e:TypeId} {A:Option Addr} {m:Nat} {L:List α},e≠181->af f k e (Cof W0.heap.size w) W0.heap.size w A m L->af f k e (Cof W0.heap.size w') W0.heap.size w' A m L:=by
   intro α f k e A m L F p;refine p.cof v (fun y a=>⟨fun n=>?_,fun cs o=>?_⟩)
   ·rw[D8] at a;obtain⟨_,cs,o⟩:=p.typ n;obtain⟨cs',b⟩:=i y a;exact F (o.ty b)
   rw[D8] at a;obtain⟨cs',b⟩:=i y a;exact absurd (o.ty b) (by decide)
  have z:af bh 2 181 (Cof W0.heap.size w') W0.heap.size w' s.A5 s.c5 c.sm:=h.g5.cof v (fun y a=>⟨by
   rw[D8] at a;exact fun n=>h.n56 y n a,fun cs o=>by
   rw[D8] at a;obtain⟨cs',b⟩:=i y a;exact absurd (o.ty b) (by decide)⟩)
  have x:∀y,(Value.slice q (c.df.length+m) r).ownBlock=some y->(Value.slice s.A5 c.sm.length s.c5).ownBlock≠some y:=fun y a n=>by
   rcases u with u | u
   ·rw[u] at a;exact(fun n=>h.n56 y n a) n
   rw[u] at a;injection a with a;have:=(h.g5.own n).2;omega
  refine⟨q,r,w',K,⟨O,l (by decide) h.g0,l (by decide) h.g1,l (by decide) h.g2,l (by decide) h.g3,l (by decide) h.g4,z,N,h.n01,fun g p n=>x g (by simpa [CU,<-t] using n) p⟩,⟨_,v,fun y a=>?_⟩,v⟩;obtain⟨cs',b⟩:=i y (D8.1 a);exact⟨_,cs',CZ.2 rfl,b⟩
end
def bdL (n:Nat) (c:Cla) (s:Sv):List Value:=I n::clL c s
end
end Go.Proofs.YtldmkbhgdbafhaaGreat
