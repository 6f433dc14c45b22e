/- A proposition kept out of the reach of the tactics. -/
namespace Gus
structure Keep (Q : Prop) : Prop where
  out : Q
end Gus
